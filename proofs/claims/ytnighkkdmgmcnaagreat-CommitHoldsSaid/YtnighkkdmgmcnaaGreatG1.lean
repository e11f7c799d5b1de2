/- What functions compute, printed by wip/gen/gen2.py. -/
import Derived.Test.YtnighkkdmgmcnaaGreatG0
set_option linter.unusedVariables false
set_option linter.unusedSimpArgs false
set_option maxRecDepth 100000
noncomputable section
namespace Go.Own
open Go.Proofs Go.Proofs.YtnighkkdmgmcnaaGreat
namespace iZ
abbrev X:Type:=(Unit×((List Int)×Unit))×(Bool×List iQ)
def res (x:(Unit×((List Int)×Unit))×(Bool×List iQ)):Res:=⟨[.sd ⟨.pair (.vw 1000000 lu) (.pair (.arr 4 (.int .u64)) .unit),x.1⟩],[],[⟨.dyn lu,x.2⟩]⟩
def brn (w:Bool×X):Brn Res:= .one w.1 (res w.2)
theorem cB (w:Bool×X):(brn w).res=(w.1,res w.2):=rfl
def g {Z:Type} (rq:Bool→Z→Z) (rt:X→Z):Z:=
rt (((),([54624333139524128,0,0,0],())),(false,[([64817,0,0,0],(0,())),([1815135269,0,0,0],(2,())),([487269091447081429,0,0,0],(2,()))]))
def r:Bool×X:=g chk (fun x=>(true,x))
def D:aH:=Dof (P:=Tryz.prog) []
def tab:List (Nat×LE Res):= []
theorem run:gL E0 [false] D (iG E0 D tab 9) Tryz.f29 (codeOf Tryz.f29) [] []=g (fun c z=>req c z) (fun x=>some (res x)):=by kernel_rfl
theorem rel:J (fun w z=>z=some (res w)) (g chk (fun x=>(true,x))) (g (fun c z=>req c z) (fun x=>some (res x))):=by
 unfold g
 with_reducible repeat (first|(apply J.lt; intro _)|apply J.rq|apply J.bif|exact J.rt rfl)
theorem ok:nA Tryz.f29=true:=by kernel_rfl
abbrev aS:List AS:= []
abbrev bS:List Ty:= []
def F (_:ASs aS) (_:Bs bS):Brn Res:=brn r
theorem good (x:ASs aS) (y:Bs bS) (h:(F x y).res.1=true):Good Tryz.prog 29 (ASs.mk aS x) (Bs.mk bS y) (F x y).res.2:=
 fP hE0 (ay _) Tryz.func29 ok aC cB (run) (rel) h
def ent:Ent Tryz.prog:=⟨29,shF aS bS F,bM good⟩
def ro:Bool×X:=Classical.choose (⟨r,rfl⟩:∃ q:Bool×X,q=r)
theorem gB:ro=r:=Classical.choose_spec (⟨r,rfl⟩:∃ q:Bool×X,q=r)
def FO (_:ASs aS) (_:Bs bS):Brn Res:=brn ro
theorem jN:FO=F:=by unfold FO F; rw [gB]
def nO:Ent Tryz.prog:=⟨29,shF aS bS FO,bM (by rw [jN]; exact good)⟩
end iZ
namespace ja
abbrev X:Type:=(Unit×((List Int)×Unit))×(Bool×List iQ)
def res (x:(Unit×((List Int)×Unit))×(Bool×List iQ)):Res:=⟨[.sd ⟨.pair (.vw 1000000 lu) (.pair (.arr 4 (.int .u64)) .unit),x.1⟩],[],[⟨.dyn lu,x.2⟩]⟩
def brn (w:Bool×X):Brn Res:= .one w.1 (res w.2)
theorem cB (w:Bool×X):(brn w).res=(w.1,res w.2):=rfl
def g {Z:Type} (rq:Bool→Z→Z) (rt:X→Z):Z:=
rt (((),([316543771439780984,0,0,0],())),(false,[([65521,0,0,0],(0,())),([1966023127,0,0,0],(2,())),([1055500680322183127,0,0,0],(2,()))]))
def r:Bool×X:=g chk (fun x=>(true,x))
def D:aH:=Dof (P:=Tryz.prog) []
def tab:List (Nat×LE Res):= []
theorem run:gL E0 [false] D (iG E0 D tab 9) Tryz.f28 (codeOf Tryz.f28) [] []=g (fun c z=>req c z) (fun x=>some (res x)):=by kernel_rfl
theorem rel:J (fun w z=>z=some (res w)) (g chk (fun x=>(true,x))) (g (fun c z=>req c z) (fun x=>some (res x))):=by
 unfold g
 with_reducible repeat (first|(apply J.lt; intro _)|apply J.rq|apply J.bif|exact J.rt rfl)
theorem ok:nA Tryz.f28=true:=by kernel_rfl
abbrev aS:List AS:= []
abbrev bS:List Ty:= []
def F (_:ASs aS) (_:Bs bS):Brn Res:=brn r
theorem good (x:ASs aS) (y:Bs bS) (h:(F x y).res.1=true):Good Tryz.prog 28 (ASs.mk aS x) (Bs.mk bS y) (F x y).res.2:=
 fP hE0 (ay _) Tryz.func28 ok aC cB (run) (rel) h
def ent:Ent Tryz.prog:=⟨28,shF aS bS F,bM good⟩
def ro:Bool×X:=Classical.choose (⟨r,rfl⟩:∃ q:Bool×X,q=r)
theorem gB:ro=r:=Classical.choose_spec (⟨r,rfl⟩:∃ q:Bool×X,q=r)
def FO (_:ASs aS) (_:Bs bS):Brn Res:=brn ro
theorem jN:FO=F:=by unfold FO F; rw [gB]
def nO:Ent Tryz.prog:=⟨28,shF aS bS FO,bM (by rw [jN]; exact good)⟩
end ja
namespace gD
abbrev X:Type:=iX
def res (x:iX):Res:=⟨[.val ⟨kP,x⟩],[],[]⟩
def g {Z:Type} (rq:Bool→Z→Z) (rt:X→Z) (which:Int):Z:=
lt (eU .i64 (· &&& ·) which (1:Int)) fun v3=>
lt (v3== 1) fun (v4:Bool)=>
bif v4 then
lt iZ.ro fun w5=>
rq w5.1<|
rt (w5.2.2.2,w5.2.1.2)
else
lt ja.ro fun w6=>
rq w6.1<|
rt (w6.2.2.2,w6.2.1.2)
def r (which:Int):Bool×X:=g chk (fun x=>(true,x)) which
def D:aH:=Dof (P:=Tryz.prog) [iZ.nO,ja.nO]
def tab:List (Nat×LE Res):= []
abbrev aS:List AS:= [.one (.val (.int .i64))]
abbrev bS:List Ty:= []
def ent:Ent Tryz.prog:=bH (D:=D) (tab:=tab) hE0 (ay _) [true] Tryz.func33 (by kernel_rfl) aC aS bS res (fun x y=>r x.1) (fun x y=>g (fun c z=>req c z) (fun x=>some (res x)) x.1) (fun _ _=>by kernel_rfl) (by
 intro x y
 show J _ (g chk (fun x=>(true,x)) x.1) (g (fun c z=>req c z) (fun x=>some (res x)) x.1)
 unfold g
 with_reducible repeat (first|(apply J.lt; intro _)|apply J.rq|apply J.bif|exact J.rt rfl))
end gD
namespace qO
abbrev X:Type:=Int×Bool
def res (x:Int×Bool):Res:=⟨[.val ⟨.int .i64,x.1⟩,.val ⟨.bool,x.2⟩],[],[]⟩
def g {Z:Type} (rq:Bool→Z→Z) (rt:X→Z) (a:(List Int)):Z:=
lt (a.getD 0 0) fun (v15:Int)=>
lt (!(ieq (a.getD 0 0) v15&&(ieq (a.getD 1 0) 0&&(ieq (a.getD 2 0) 0&&(ieq (a.getD 3 0) 0&&true))))) fun (v16:Bool)=>
bif v16 then
rt (0,false)
else
lt (a.getD 0 0) fun (v17:Int)=>
lt (ilt 9223372036854775807 v17) fun v18=>
bif v18 then
rt (0,false)
else
lt (a.getD 0 0) fun (v19:Int)=>
lt (IntKind.i64.wrap (v19)) fun v20=>
rt (v20,true)
def r (a:(List Int)):Bool×X:=g chk (fun x=>(true,x)) a
def D:aH:=Dof (P:=Tryz.prog) []
def tab:List (Nat×LE Res):= []
abbrev aS:List AS:= [.one (.val (.arr 4 (.int .u64)))]
abbrev bS:List Ty:= []
def ent:Ent Tryz.prog:=bH (D:=D) (tab:=tab) hE0 (ay _) [true,true] Tryz.func85 (by kernel_rfl) aC aS bS res (fun x y=>r x.1) (fun x y=>g (fun c z=>req c z) (fun x=>some (res x)) x.1) (fun _ _=>by kernel_rfl) (by
 intro x y
 show J _ (g chk (fun x=>(true,x)) x.1) (g (fun c z=>req c z) (fun x=>some (res x)) x.1)
 unfold g
 with_reducible repeat (first|(apply J.lt; intro _)|apply J.rq|apply J.bif|exact J.rt rfl))
end qO
namespace oH
abbrev X:Type:=Bool
def res (x:Bool):Res:=⟨[.val ⟨.bool,x⟩],[],[]⟩
abbrev sh0:List (Nat×Sh):= [(0,.p (.int .i64)),(2,.p .bool),(3,.p .bool),(11,.p (.int .i64)),(12,.p (.int .i64))]
abbrev bx0:List (Nat×Ty):= []
abbrev aY:List (Nat×Ty):= []
abbrev aX:List (Nat×Sh):= []
abbrev aZ:List (Nat×Ty):= []
abbrev bX:List (Nat×Ty):= []
abbrev X0:Type:=Int×Bool×Bool×Int×Int×Unit
abbrev Y0:Type:=Unit
abbrev U0:Type:=Unit
abbrev V0:Type:=Unit
def g0 {Z:Type} (rq:Bool→Z→Z) (kn:X0→Y0→Z) (ke:Nat→X0→Y0→Z) (kr:U0→V0→Z) (x:X0) (y:Y0):Z:=
lt (ilt x.2.2.2.2.1 x.2.2.2.1) fun v26=>
bif v26 then
lt (ilt x.2.2.2.2.1 2) fun v27=>
bif v27 then
lt (IntKind.i64.wrap (x.2.2.2.2.1+1)) fun v28=>
kn (x.1,x.2.1,x.2.2.1,x.2.2.2.1,v28,()) ()
else
lt (IntKind.i64.wrap (x.2.2.2.2.1*x.2.2.2.2.1)) fun v29=>
lt (ilt x.1 v29) fun v30=>
bif v30 then
ke 0 (x.1,x.2.1,x.2.2.1,x.2.2.2.1,x.2.2.2.2.1,()) ()
else
lt (x.1.tmod x.2.2.2.2.1) fun (v31:Int)=>
rq (!ieq x.2.2.2.2.1 0)<|
lt (v31== 0) fun (v32:Bool)=>
bif v32 then
ke 0 (x.1,x.2.1,false,x.2.2.2.1,x.2.2.2.2.1,()) ()
else
lt (IntKind.i64.wrap (x.2.2.2.2.1+1)) fun v33=>
kn (x.1,x.2.1,x.2.2.1,x.2.2.2.1,v33,()) ()
else
ke 0 (x.1,x.2.1,x.2.2.1,x.2.2.2.1,x.2.2.2.2.1,()) ()
def fu0 (x:X0) (y:Y0):Nat:=(x.2.2.2.1 - x.2.2.2.2.1).toNat+1
def l0 (x:X0) (y:Y0):Bool×Nat×X0×Y0×U0×V0:=rounds (fun rq kn ke kr x y=>g0 rq kn ke kr x y) () () (fu0 x y) x y
def g {Z:Type} (rq:Bool→Z→Z) (rt:X→Z) (n:Int):Z:=
lt (ilt n 2) fun v23=>
bif v23 then
rt false
else
lt (ile 65536 n) fun v24=>
bif v24 then
rt false
else
lt (oH.l0 (n,false,true,n,0,()) ()) fun w34=>
rq w34.1<|
rt w34.2.2.1.2.2.1
def r (n:Int):Bool×X:=g chk (fun x=>(true,x)) n
def D:aH:=Dof (P:=Tryz.prog) []
abbrev lf0:=dw (R:=Res) [1] (rounds (fun rq kn ke kr x y=>g0 rq kn ke kr x y) () ()) fu0
def tab:List (Nat×LE Res):= [(6,.typed (eY 31 sh0 bx0 aY aX aZ (lf0)))]
theorem bV:Nonempty (Told E0 D tab Tryz.f86.ntmps (aG (codeOf Tryz.f86) 0) 31 sh0 bx0 aY aX aZ lf0):=fH (sh:=sh0) (bx:=bx0) (ord:=aY) (shR:=aX) (bxR:=aZ) bX (by kernel_rfl) (by kernel_rfl) (by kernel_rfl) [1] _ _ _ @g0 (fun _ _ _ _ _=>by kernel_rfl) (by
  intro _ _ _ _ _ _ _ h i k x y
  simp only [g0]
  with_reducible repeat (first|(apply J.lt; intro _)|apply J.rq|apply J.bif|exact h _ _|exact i _ (by decide) _ _|exact k (by decide) _ _))
theorem bW:fQ E0 D tab Tryz.f86.ntmps (codeOf Tryz.f86):=bT (bs:= [aG (codeOf Tryz.f86) 0]) (by kernel_rfl) (aF (bP (by kernel_rfl) (bV)) aO)
abbrev aS:List AS:= [.one (.val (.int .i64))]
abbrev bS:List Ty:= []
def ent:Ent Tryz.prog:=bH (D:=D) (tab:=tab) hE0 (ay _) [true] Tryz.func86 (by kernel_rfl) bW aS bS res (fun x y=>r x.1) (fun x y=>g (fun c z=>req c z) (fun x=>some (res x)) x.1) (fun _ _=>by kernel_rfl) (by
 intro x y
 show J _ (g chk (fun x=>(true,x)) x.1) (g (fun c z=>req c z) (fun x=>some (res x)) x.1)
 unfold g
 with_reducible repeat (first|(apply J.lt; intro _)|apply J.rq|apply J.bif|exact J.rt rfl))
end oH
namespace dM
abbrev X:Type:=(List Int)
def res (x:(List Int)):Res:=⟨[.val ⟨.arr 4 (.int .u64),x⟩],[],[]⟩
def g {Z:Type} (rq:Bool→Z→Z) (rt:X→Z) (n:Int):Z:=
lt (bif ilt n (0:Int) then (0:Int) else n) fun (v50:Int)=>
lt (IntKind.u64.wrap (v50)) fun v51=>
rt [v51,0,0,0]
def r (n:Int):Bool×X:=g chk (fun x=>(true,x)) n
def D:aH:=Dof (P:=Tryz.prog) []
def tab:List (Nat×LE Res):= []
abbrev aS:List AS:= [.one (.val (.int .i64))]
abbrev bS:List Ty:= []
def ent:Ent Tryz.prog:=bH (D:=D) (tab:=tab) hE0 (ay _) [true] Tryz.func42 (by kernel_rfl) aC aS bS res (fun x y=>r x.1) (fun x y=>g (fun c z=>req c z) (fun x=>some (res x)) x.1) (fun _ _=>by kernel_rfl) (by
 intro x y
 show J _ (g chk (fun x=>(true,x)) x.1) (g (fun c z=>req c z) (fun x=>some (res x)) x.1)
 unfold g
 with_reducible repeat (first|(apply J.lt; intro _)|apply J.rq|apply J.bif|exact J.rt rfl))
end dM
namespace jo
abbrev X:Type:=Int
def res (x:Int):Res:=⟨[.val ⟨.int .i64,x⟩],[],[]⟩
def g {Z:Type} (rq:Bool→Z→Z) (rt:X→Z) (xx:Int):Z:=
lt (ile 4294967296 xx) fun v108=>
bif v108 then
lt (xx.fdiv (2^32)) fun (v109:Int)=>
lt (ile 65536 v109) fun v110=>
bif v110 then
lt (v109.fdiv (2^16)) fun (v111:Int)=>
lt (ile 256 v111) fun v112=>
bif v112 then
lt (v111.fdiv (2^8)) fun (v113:Int)=>
lt (IntKind.u8.wrap (v113)) fun v114=>
lt ((zL.data.getD v114.toNat 0).toNat:Int) fun (v115:Int)=>
rq (ile (0:Int) v114&&ilt v114 256)<|
lt (IntKind.i64.wrap (v115)) fun v116=>
lt (IntKind.i64.wrap ((56:Int)+v116)) fun v117=>
rt v117
else
lt (IntKind.u8.wrap (v111)) fun v118=>
lt ((zL.data.getD v118.toNat 0).toNat:Int) fun (v119:Int)=>
rq (ile (0:Int) v118&&ilt v118 256)<|
lt (IntKind.i64.wrap (v119)) fun v120=>
lt (IntKind.i64.wrap ((48:Int)+v120)) fun v121=>
rt v121
else
lt (ile 256 v109) fun v122=>
bif v122 then
lt (v109.fdiv (2^8)) fun (v123:Int)=>
lt (IntKind.u8.wrap (v123)) fun v124=>
lt ((zL.data.getD v124.toNat 0).toNat:Int) fun (v125:Int)=>
rq (ile (0:Int) v124&&ilt v124 256)<|
lt (IntKind.i64.wrap (v125)) fun v126=>
lt (IntKind.i64.wrap ((40:Int)+v126)) fun v127=>
rt v127
else
lt (IntKind.u8.wrap (v109)) fun v128=>
lt ((zL.data.getD v128.toNat 0).toNat:Int) fun (v129:Int)=>
rq (ile (0:Int) v128&&ilt v128 256)<|
lt (IntKind.i64.wrap (v129)) fun v130=>
lt (IntKind.i64.wrap ((32:Int)+v130)) fun v131=>
rt v131
else
lt (ile 65536 xx) fun v132=>
bif v132 then
lt (xx.fdiv (2^16)) fun (v133:Int)=>
lt (ile 256 v133) fun v134=>
bif v134 then
lt (v133.fdiv (2^8)) fun (v135:Int)=>
lt (IntKind.u8.wrap (v135)) fun v136=>
lt ((zL.data.getD v136.toNat 0).toNat:Int) fun (v137:Int)=>
rq (ile (0:Int) v136&&ilt v136 256)<|
lt (IntKind.i64.wrap (v137)) fun v138=>
lt (IntKind.i64.wrap ((24:Int)+v138)) fun v139=>
rt v139
else
lt (IntKind.u8.wrap (v133)) fun v140=>
lt ((zL.data.getD v140.toNat 0).toNat:Int) fun (v141:Int)=>
rq (ile (0:Int) v140&&ilt v140 256)<|
lt (IntKind.i64.wrap (v141)) fun v142=>
lt (IntKind.i64.wrap ((16:Int)+v142)) fun v143=>
rt v143
else
lt (ile 256 xx) fun v144=>
bif v144 then
lt (xx.fdiv (2^8)) fun (v145:Int)=>
lt (IntKind.u8.wrap (v145)) fun v146=>
lt ((zL.data.getD v146.toNat 0).toNat:Int) fun (v147:Int)=>
rq (ile (0:Int) v146&&ilt v146 256)<|
lt (IntKind.i64.wrap (v147)) fun v148=>
lt (IntKind.i64.wrap ((8:Int)+v148)) fun v149=>
rt v149
else
lt (IntKind.u8.wrap (xx)) fun v150=>
lt ((zL.data.getD v150.toNat 0).toNat:Int) fun (v151:Int)=>
rq (ile (0:Int) v150&&ilt v150 256)<|
lt (IntKind.i64.wrap (v151)) fun v152=>
lt (IntKind.i64.wrap ((0:Int)+v152)) fun v153=>
rt v153
def r (xx:Int):Bool×X:=g chk (fun x=>(true,x)) xx
def D:aH:=Dof (P:=Tryz.prog) []
def tab:List (Nat×LE Res):= []
abbrev aS:List AS:= [.one (.val (.int .u64))]
abbrev bS:List Ty:= []
def ent:Ent Tryz.prog:=bH (D:=D) (tab:=tab) hE0 (ay _) [true] Tryz.func90 (by kernel_rfl) aC aS bS res (fun x y=>r x.1) (fun x y=>g (fun c z=>req c z) (fun x=>some (res x)) x.1) (fun _ _=>by kernel_rfl) (by
 intro x y
 show J _ (g chk (fun x=>(true,x)) x.1) (g (fun c z=>req c z) (fun x=>some (res x)) x.1)
 unfold g
 with_reducible repeat (first|(apply J.lt; intro _)|apply J.rq|apply J.bif|exact J.rt rfl))
end jo
namespace iq
abbrev X:Type:=Int
def res (x:Int):Res:=⟨[.val ⟨.int .i64,x⟩],[],[]⟩
def g {Z:Type} (rq:Bool→Z→Z) (rt:X→Z) (xx:Int):Z:=
lt (jo.r xx) fun w154=>
rq w154.1<|
lt (IntKind.i64.wrap ((64:Int) - w154.2)) fun v155=>
rt v155
def r (xx:Int):Bool×X:=g chk (fun x=>(true,x)) xx
def D:aH:=Dof (P:=Tryz.prog) [jo.ent]
def tab:List (Nat×LE Res):= []
abbrev aS:List AS:= [.one (.val (.int .u64))]
abbrev bS:List Ty:= []
def ent:Ent Tryz.prog:=bH (D:=D) (tab:=tab) hE0 (ay _) [true] Tryz.func133 (by kernel_rfl) aC aS bS res (fun x y=>r x.1) (fun x y=>g (fun c z=>req c z) (fun x=>some (res x)) x.1) (fun _ _=>by kernel_rfl) (by
 intro x y
 show J _ (g chk (fun x=>(true,x)) x.1) (g (fun c z=>req c z) (fun x=>some (res x)) x.1)
 unfold g
 with_reducible repeat (first|(apply J.lt; intro _)|apply J.rq|apply J.bif|exact J.rt rfl))
end iq
namespace fu
abbrev X:Type:=Int×Int
def res (x:Int×Int):Res:=⟨[.val ⟨.int .u64,x.1⟩,.val ⟨.int .u64,x.2⟩],[],[]⟩
abbrev sh1:List (Nat×Sh):= [(2,.p (.int .u64)),(6,.p (.int .u64)),(7,.p (.int .u64)),(8,.p (.int .u64)),(9,.p (.int .u64)),(10,.p (.int .u64)),(14,.p (.int .u64)),(15,.p (.int .u64)),(16,.p (.int .u64)),(17,.p (.int .u64)),(18,.p (.int .u64))]
abbrev bx1:List (Nat×Ty):= []
abbrev nI:List (Nat×Ty):= []
abbrev nG:List (Nat×Sh):= []
abbrev nS:List (Nat×Ty):= []
abbrev rQ:List (Nat×Ty):= []
abbrev X1:Type:=Int×Int×Int×Int×Int×Int×Int×Int×Int×Int×Int×Unit
abbrev Y1:Type:=Unit
abbrev U1:Type:=Unit
abbrev V1:Type:=Unit
def g1 {Z:Type} (rq:Bool→Z→Z) (kn:X1→Y1→Z) (ke:Nat→X1→Y1→Z) (kr:U1→V1→Z) (x:X1) (y:Y1):Z:=
lt (ile 4294967296 x.2.2.2.2.2.2.2.2.2.2.1) fun v262=>
bif v262 then
lt (IntKind.u64.wrap (x.2.2.2.2.2.2.2.2.2.2.1 - 1)) fun v263=>
lt (IntKind.u64.wrap (x.2.2.2.2.2.2.2.2.1+x.2.2.2.2.1)) fun v264=>
lt (ile 4294967296 v264) fun v265=>
bif v265 then
ke 2 (x.1,x.2.1,x.2.2.1,x.2.2.2.1,x.2.2.2.2.1,x.2.2.2.2.2.1,x.2.2.2.2.2.2.1,x.2.2.2.2.2.2.2.1,v264,x.2.2.2.2.2.2.2.2.2.1,v263,()) ()
else
kn (x.1,x.2.1,x.2.2.1,x.2.2.2.1,x.2.2.2.2.1,x.2.2.2.2.2.1,x.2.2.2.2.2.2.1,x.2.2.2.2.2.2.2.1,v264,x.2.2.2.2.2.2.2.2.2.1,v263,()) ()
else
lt (IntKind.u64.wrap (x.2.2.2.2.2.2.2.2.2.2.1*x.2.2.2.2.2.1)) fun v266=>
lt (IntKind.u64.wrap ((4294967296:Int)*x.2.2.2.2.2.2.2.2.1)) fun v267=>
lt (IntKind.u64.wrap (v267+x.2.2.2.2.2.2.1)) fun v268=>
lt (ilt v268 v266) fun v269=>
bif v269 then
lt (IntKind.u64.wrap (x.2.2.2.2.2.2.2.2.2.2.1 - 1)) fun v270=>
lt (IntKind.u64.wrap (x.2.2.2.2.2.2.2.2.1+x.2.2.2.2.1)) fun v271=>
lt (ile 4294967296 v271) fun v272=>
bif v272 then
ke 2 (x.1,x.2.1,x.2.2.1,x.2.2.2.1,x.2.2.2.2.1,x.2.2.2.2.2.1,x.2.2.2.2.2.2.1,x.2.2.2.2.2.2.2.1,v271,x.2.2.2.2.2.2.2.2.2.1,v270,()) ()
else
kn (x.1,x.2.1,x.2.2.1,x.2.2.2.1,x.2.2.2.2.1,x.2.2.2.2.2.1,x.2.2.2.2.2.2.1,x.2.2.2.2.2.2.2.1,v271,x.2.2.2.2.2.2.2.2.2.1,v270,()) ()
else
ke 2 (x.1,x.2.1,x.2.2.1,x.2.2.2.1,x.2.2.2.2.1,x.2.2.2.2.2.1,x.2.2.2.2.2.2.1,x.2.2.2.2.2.2.2.1,x.2.2.2.2.2.2.2.2.1,x.2.2.2.2.2.2.2.2.2.1,x.2.2.2.2.2.2.2.2.2.2.1,()) ()
def fu1 (x:X1) (y:Y1):Nat:=8
def l1 (x:X1) (y:Y1):Bool×Nat×X1×Y1×U1×V1:=rounds (fun rq kn ke kr x y=>g1 rq kn ke kr x y) () () (fu1 x y) x y
abbrev sh0:List (Nat×Sh):= [(2,.p (.int .u64)),(6,.p (.int .u64)),(7,.p (.int .u64)),(8,.p (.int .u64)),(9,.p (.int .u64)),(10,.p (.int .u64)),(11,.p (.int .u64)),(13,.p (.int .u64)),(14,.p (.int .u64)),(15,.p (.int .u64)),(16,.p (.int .u64))]
abbrev bx0:List (Nat×Ty):= []
abbrev aY:List (Nat×Ty):= []
abbrev aX:List (Nat×Sh):= []
abbrev aZ:List (Nat×Ty):= []
abbrev bX:List (Nat×Ty):= []
abbrev X0:Type:=Int×Int×Int×Int×Int×Int×Int×Int×Int×Int×Int×Unit
abbrev Y0:Type:=Unit
abbrev U0:Type:=Unit
abbrev V0:Type:=Unit
def g0 {Z:Type} (rq:Bool→Z→Z) (kn:X0→Y0→Z) (ke:Nat→X0→Y0→Z) (kr:U0→V0→Z) (x:X0) (y:Y0):Z:=
lt (ile 4294967296 x.2.2.2.2.2.2.2.2.2.1) fun v207=>
bif v207 then
lt (IntKind.u64.wrap (x.2.2.2.2.2.2.2.2.2.1 - 1)) fun v208=>
lt (IntKind.u64.wrap (x.2.2.2.2.2.2.2.2.2.2.1+x.2.2.2.2.1)) fun v209=>
lt (ile 4294967296 v209) fun v210=>
bif v210 then
ke 0 (x.1,x.2.1,x.2.2.1,x.2.2.2.1,x.2.2.2.2.1,x.2.2.2.2.2.1,x.2.2.2.2.2.2.1,x.2.2.2.2.2.2.2.1,x.2.2.2.2.2.2.2.2.1,v208,v209,()) ()
else
kn (x.1,x.2.1,x.2.2.1,x.2.2.2.1,x.2.2.2.2.1,x.2.2.2.2.2.1,x.2.2.2.2.2.2.1,x.2.2.2.2.2.2.2.1,x.2.2.2.2.2.2.2.2.1,v208,v209,()) ()
else
lt (IntKind.u64.wrap (x.2.2.2.2.2.2.2.2.2.1*x.2.2.2.2.2.1)) fun v211=>
lt (IntKind.u64.wrap ((4294967296:Int)*x.2.2.2.2.2.2.2.2.2.2.1)) fun v212=>
lt (IntKind.u64.wrap (v212+x.2.2.2.2.2.2.2.1)) fun v213=>
lt (ilt v213 v211) fun v214=>
bif v214 then
lt (IntKind.u64.wrap (x.2.2.2.2.2.2.2.2.2.1 - 1)) fun v215=>
lt (IntKind.u64.wrap (x.2.2.2.2.2.2.2.2.2.2.1+x.2.2.2.2.1)) fun v216=>
lt (ile 4294967296 v216) fun v217=>
bif v217 then
ke 0 (x.1,x.2.1,x.2.2.1,x.2.2.2.1,x.2.2.2.2.1,x.2.2.2.2.2.1,x.2.2.2.2.2.2.1,x.2.2.2.2.2.2.2.1,x.2.2.2.2.2.2.2.2.1,v215,v216,()) ()
else
kn (x.1,x.2.1,x.2.2.1,x.2.2.2.1,x.2.2.2.2.1,x.2.2.2.2.2.1,x.2.2.2.2.2.2.1,x.2.2.2.2.2.2.2.1,x.2.2.2.2.2.2.2.2.1,v215,v216,()) ()
else
ke 0 (x.1,x.2.1,x.2.2.1,x.2.2.2.1,x.2.2.2.2.1,x.2.2.2.2.2.1,x.2.2.2.2.2.2.1,x.2.2.2.2.2.2.2.1,x.2.2.2.2.2.2.2.2.1,x.2.2.2.2.2.2.2.2.2.1,x.2.2.2.2.2.2.2.2.2.2.1,()) ()
def fu0 (x:X0) (y:Y0):Nat:=8
def l0 (x:X0) (y:Y0):Bool×Nat×X0×Y0×U0×V0:=rounds (fun rq kn ke kr x y=>g0 rq kn ke kr x y) () () (fu0 x y) x y
def g {Z:Type} (rq:Bool→Z→Z) (rt:X→Z) (hi:Int) (lo:Int) (yx:Int):Z:=
lt (yx== 0) fun (v103:Bool)=>
bif v103 then
rq false<|rt (0,0)
else
lt (ile yx hi) fun v104=>
bif v104 then
rq false<|rt (0,0)
else
lt (hi== 0) fun (v105:Bool)=>
bif v105 then
lt (IntKind.u64.wrap (lo.tdiv yx)) fun v106=>
rq (!ieq yx 0)<|
lt (lo.tmod yx) fun (v107:Int)=>
rq (!ieq yx 0)<|
rt (v106,v107)
else
lt (iq.r yx) fun w156=>
rq w156.1<|
lt (IntKind.u64.wrap (w156.2)) fun v157=>
lt (IntKind.u64.wrap (yx*2^(min v157.toNat 64))) fun v158=>
rq (!ilt v157 0)<|
lt (v158.fdiv (2^32)) fun (v159:Int)=>
lt (eU .u64 (· &&& ·) v158 (4294967295:Int)) fun v160=>
lt (IntKind.u64.wrap (hi*2^(min v157.toNat 64))) fun v161=>
rq (!ilt v157 0)<|
lt (IntKind.u64.wrap ((64:Int) - v157)) fun v162=>
lt (lo.fdiv (2^(min v162.toNat 64))) fun (v163:Int)=>
rq (!ilt v162 0)<|
lt (eU .u64 (· ||| ·) v161 v163) fun v164=>
lt (IntKind.u64.wrap (lo*2^(min v157.toNat 64))) fun v165=>
rq (!ilt v157 0)<|
lt (v165.fdiv (2^32)) fun (v166:Int)=>
lt (eU .u64 (· &&& ·) v165 (4294967295:Int)) fun v167=>
lt (IntKind.u64.wrap (v164.tdiv v159)) fun v168=>
rq (!ieq v159 0)<|
lt (IntKind.u64.wrap (v168*v159)) fun v169=>
lt (IntKind.u64.wrap (v164 - v169)) fun v170=>
lt (fu.l0 (v158,0,0,v157,v159,v160,v164,v166,v167,v168,v170,()) ()) fun w218=>
rq w218.1<|
lt (IntKind.u64.wrap (w218.2.2.1.2.2.2.2.2.2.1*4294967296)) fun v219=>
lt (IntKind.u64.wrap (v219+w218.2.2.1.2.2.2.2.2.2.2.1)) fun v220=>
lt (IntKind.u64.wrap (w218.2.2.1.2.2.2.2.2.2.2.2.2.1*w218.2.2.1.1)) fun v221=>
lt (IntKind.u64.wrap (v220 - v221)) fun v222=>
lt (IntKind.u64.wrap (v222.tdiv w218.2.2.1.2.2.2.2.1)) fun v223=>
rq (!ieq w218.2.2.1.2.2.2.2.1 0)<|
lt (IntKind.u64.wrap (v223*w218.2.2.1.2.2.2.2.1)) fun v224=>
lt (IntKind.u64.wrap (v222 - v224)) fun v225=>
lt (fu.l1 (w218.2.2.1.1,w218.2.2.1.2.1,w218.2.2.1.2.2.1,w218.2.2.1.2.2.2.1,w218.2.2.1.2.2.2.2.1,w218.2.2.1.2.2.2.2.2.1,w218.2.2.1.2.2.2.2.2.2.2.2.1,w218.2.2.1.2.2.2.2.2.2.2.2.2.1,v225,v222,v223,()) ()) fun w273=>
rq w273.1<|
lt (IntKind.u64.wrap (w273.2.2.1.2.2.2.2.2.2.2.1*4294967296)) fun v274=>
lt (IntKind.u64.wrap (v274+w273.2.2.1.2.2.2.2.2.2.2.2.2.2.1)) fun v275=>
lt (IntKind.u64.wrap (w273.2.2.1.2.2.2.2.2.2.2.2.2.1*4294967296)) fun v276=>
lt (IntKind.u64.wrap (v276+w273.2.2.1.2.2.2.2.2.2.1)) fun v277=>
lt (IntKind.u64.wrap (w273.2.2.1.2.2.2.2.2.2.2.2.2.2.1*w273.2.2.1.1)) fun v278=>
lt (IntKind.u64.wrap (v277 - v278)) fun v279=>
lt (v279.fdiv (2^(min w273.2.2.1.2.2.2.1.toNat 64))) fun (v280:Int)=>
rq (!ilt w273.2.2.1.2.2.2.1 0)<|
rt (v275,v280)
def r (hi:Int) (lo:Int) (yx:Int):Bool×X:=g chk (fun x=>(true,x)) hi lo yx
def D:aH:=Dof (P:=Tryz.prog) [iq.ent]
abbrev lf1:=dw (R:=Res) [3] (rounds (fun rq kn ke kr x y=>g1 rq kn ke kr x y) () ()) fu1
abbrev lf0:=dw (R:=Res) [1] (rounds (fun rq kn ke kr x y=>g0 rq kn ke kr x y) () ()) fu0
def tab:List (Nat×LE Res):= [(25,.typed (eY 135 sh1 bx1 nI nG nS (lf1))),(18,.typed (eY 135 sh0 bx0 aY aX aZ (lf0)))]
theorem rf:Nonempty (Told E0 D tab Tryz.f106.ntmps (aG (codeOf Tryz.f106) 1) 135 sh1 bx1 nI nG nS lf1):=fH (sh:=sh1) (bx:=bx1) (ord:=nI) (shR:=nG) (bxR:=nS) rQ (by kernel_rfl) (by kernel_rfl) (by kernel_rfl) [3] _ _ _ @g1 (fun _ _ _ _ _=>by kernel_rfl) (by
  intro _ _ _ _ _ _ _ h i k x y
  simp only [g1]
  with_reducible repeat (first|(apply J.lt; intro _)|apply J.rq|apply J.bif|exact h _ _|exact i _ (by decide) _ _|exact k (by decide) _ _))
theorem bV:Nonempty (Told E0 D tab Tryz.f106.ntmps (aG (codeOf Tryz.f106) 0) 135 sh0 bx0 aY aX aZ lf0):=fH (sh:=sh0) (bx:=bx0) (ord:=aY) (shR:=aX) (bxR:=aZ) bX (by kernel_rfl) (by kernel_rfl) (by kernel_rfl) [1] _ _ _ @g0 (fun _ _ _ _ _=>by kernel_rfl) (by
  intro _ _ _ _ _ _ _ h i k x y
  simp only [g0]
  with_reducible repeat (first|(apply J.lt; intro _)|apply J.rq|apply J.bif|exact h _ _|exact i _ (by decide) _ _|exact k (by decide) _ _))
theorem bW:fQ E0 D tab Tryz.f106.ntmps (codeOf Tryz.f106):=bT (bs:= [aG (codeOf Tryz.f106) 0,aG (codeOf Tryz.f106) 1]) (by kernel_rfl) (aF (bP (by kernel_rfl) (bV)) (aF (bP (by kernel_rfl) (rf)) aO))
abbrev aS:List AS:= [.one (.val (.int .u64)),.one (.val (.int .u64)),.one (.val (.int .u64))]
abbrev bS:List Ty:= []
def ent:Ent Tryz.prog:=bH (D:=D) (tab:=tab) hE0 (ay _) [true,true] Tryz.func106 (by kernel_rfl) bW aS bS res (fun x y=>r x.1 x.2.1 x.2.2.1) (fun x y=>g (fun c z=>req c z) (fun x=>some (res x)) x.1 x.2.1 x.2.2.1) (fun _ _=>by kernel_rfl) (by
 intro x y
 show J _ (g chk (fun x=>(true,x)) x.1 x.2.1 x.2.2.1) (g (fun c z=>req c z) (fun x=>some (res x)) x.1 x.2.1 x.2.2.1)
 unfold g
 with_reducible repeat (first|(apply J.lt; intro _)|apply J.rq|apply J.bif|exact J.rt rfl))
end fu
namespace nU
abbrev X:Type:=(List Int)×(List Int)
def res (x:(List Int)×(List Int)):Res:=⟨[.val ⟨.arr 4 (.int .u64),x.1⟩,.val ⟨.arr 4 (.int .u64),x.2⟩],[],[]⟩
def g {Z:Type} (rq:Bool→Z→Z) (rt:X→Z) (a:(List Int)) (left:Int) (m:Int):Z:=
lt (a.getD 3 0) fun (v288:Int)=>
lt (fu.r left v288 m) fun w289=>
rq w289.1<|
lt (a.getD 2 0) fun (v290:Int)=>
lt (fu.r w289.2.2 v290 m) fun w291=>
rq w291.1<|
lt (a.getD 1 0) fun (v292:Int)=>
lt (fu.r w291.2.2 v292 m) fun w293=>
rq w293.1<|
lt (a.getD 0 0) fun (v294:Int)=>
lt (fu.r w293.2.2 v294 m) fun w295=>
rq w295.1<|
rt ([w295.2.1,w293.2.1,w291.2.1,w289.2.1],[w295.2.2,0,0,0])
def r (a:(List Int)) (left:Int) (m:Int):Bool×X:=g chk (fun x=>(true,x)) a left m
def D:aH:=Dof (P:=Tryz.prog) [fu.ent]
def tab:List (Nat×LE Res):= []
abbrev aS:List AS:= [.one (.val (.arr 4 (.int .u64))),.one (.val (.int .u64)),.one (.val (.int .u64))]
abbrev bS:List Ty:= []
def ent:Ent Tryz.prog:=bH (D:=D) (tab:=tab) hE0 (ay _) [true,true] Tryz.func147 (by kernel_rfl) aC aS bS res (fun x y=>r x.1 x.2.1 x.2.2.1) (fun x y=>g (fun c z=>req c z) (fun x=>some (res x)) x.1 x.2.1 x.2.2.1) (fun _ _=>by kernel_rfl) (by
 intro x y
 show J _ (g chk (fun x=>(true,x)) x.1 x.2.1 x.2.2.1) (g (fun c z=>req c z) (fun x=>some (res x)) x.1 x.2.1 x.2.2.1)
 unfold g
 with_reducible repeat (first|(apply J.lt; intro _)|apply J.rq|apply J.bif|exact J.rt rfl))
end nU
namespace tu
abbrev X:Type:=Int
def res (x:Int):Res:=⟨[.val ⟨.int .i64,x⟩],[],[]⟩
def g {Z:Type} (rq:Bool→Z→Z) (rt:X→Z) (a:(List Int)) (kx:Int):Z:=
lt (ilt kx 0) fun v297=>
bif v297 then
rt 0
else
lt (ile 256 kx) fun v298=>
bif v298 then
rt 0
else
lt (IntKind.i64.wrap (kx.tdiv 64)) fun v299=>
rq (ile (0:Int) v299&&ilt v299 4)<|
lt (a.getD v299.toNat 0) fun (v300:Int)=>
lt (kx.tmod 64) fun (v301:Int)=>
lt (v300.fdiv (2^(min v301.toNat 64))) fun (v302:Int)=>
rq (!ilt v301 0)<|
lt (eU .u64 (· &&& ·) v302 (1:Int)) fun v303=>
lt (IntKind.i64.wrap (v303)) fun v304=>
rt v304
def r (a:(List Int)) (kx:Int):Bool×X:=g chk (fun x=>(true,x)) a kx
def D:aH:=Dof (P:=Tryz.prog) []
def tab:List (Nat×LE Res):= []
abbrev aS:List AS:= [.one (.val (.arr 4 (.int .u64))),.one (.val (.int .i64))]
abbrev bS:List Ty:= []
def ent:Ent Tryz.prog:=bH (D:=D) (tab:=tab) hE0 (ay _) [true] Tryz.func148 (by kernel_rfl) aC aS bS res (fun x y=>r x.1 x.2.1) (fun x y=>g (fun c z=>req c z) (fun x=>some (res x)) x.1 x.2.1) (fun _ _=>by kernel_rfl) (by
 intro x y
 show J _ (g chk (fun x=>(true,x)) x.1 x.2.1) (g (fun c z=>req c z) (fun x=>some (res x)) x.1 x.2.1)
 unfold g
 with_reducible repeat (first|(apply J.lt; intro _)|apply J.rq|apply J.bif|exact J.rt rfl))
end tu
namespace l9
abbrev X:Type:=(List Int)
def res (x:(List Int)):Res:=⟨[.val ⟨.arr 4 (.int .u64),x⟩],[],[]⟩
abbrev sh0:List (Nat×Sh):= [(2,.pb 500000 (.arr 4 (.int .u64)) []),(4,.pb 500001 (.arr 4 (.int .u64)) []),(5,.pb 500002 (.arr 4 (.int .u64)) []),(6,.p (.int .i64)),(7,.p (.int .i64)),(8,.p (.int .i64))]
abbrev bx0:List (Nat×Ty):= [(500000,.arr 4 (.int .u64)),(500001,.arr 4 (.int .u64)),(500002,.arr 4 (.int .u64))]
abbrev aY:List (Nat×Ty):= [(500000,.arr 4 (.int .u64)),(500001,.arr 4 (.int .u64)),(500002,.arr 4 (.int .u64))]
abbrev aX:List (Nat×Sh):= []
abbrev aZ:List (Nat×Ty):= []
abbrev bX:List (Nat×Ty):= []
abbrev X0:Type:=Unit×Unit×Unit×Int×Int×Int×Unit
abbrev Y0:Type:=(List Int)×(List Int)×(List Int)×Unit
abbrev U0:Type:=Unit
abbrev V0:Type:=Unit
def g0 {Z:Type} (rq:Bool→Z→Z) (kn:X0→Y0→Z) (ke:Nat→X0→Y0→Z) (kr:U0→V0→Z) (x:X0) (y:Y0):Z:=
lt (ilt x.2.2.2.2.2.1 4) fun v311=>
bif v311 then
lt (IntKind.i64.wrap (x.2.2.2.2.2.1 - x.2.2.2.1)) fun v312=>
rq (ile (0:Int) v312&&ilt v312 4)<|
lt (y.1.getD v312.toNat 0) fun (v313:Int)=>
lt (IntKind.u64.wrap (v313*2^(min x.2.2.2.2.1.toNat 64))) fun v314=>
rq (!ilt x.2.2.2.2.1 0)<|
rq (ile (0:Int) x.2.2.2.2.2.1&&ilt x.2.2.2.2.2.1 4)<|
lt (y.2.2.1.set x.2.2.2.2.2.1.toNat v314) fun (v315:(List Int))=>
lt (ilt x.2.2.2.1 x.2.2.2.2.2.1) fun v316=>
bif v316 then
rq (ile (0:Int) x.2.2.2.2.2.1&&ilt x.2.2.2.2.2.1 4)<|
lt (v315.getD x.2.2.2.2.2.1.toNat 0) fun (v317:Int)=>
lt (IntKind.i64.wrap (x.2.2.2.2.2.1 - x.2.2.2.1)) fun v318=>
lt (IntKind.i64.wrap (v318 - 1)) fun v319=>
rq (ile (0:Int) v319&&ilt v319 4)<|
lt (y.1.getD v319.toNat 0) fun (v320:Int)=>
lt (IntKind.i64.wrap ((64:Int) - x.2.2.2.2.1)) fun v321=>
lt (v320.fdiv (2^(min v321.toNat 64))) fun (v322:Int)=>
rq (!ilt v321 0)<|
lt (eU .u64 (· ||| ·) v317 v322) fun v323=>
rq (ile (0:Int) x.2.2.2.2.2.1&&ilt x.2.2.2.2.2.1 4)<|
lt (v315.set x.2.2.2.2.2.1.toNat v323) fun (v324:(List Int))=>
lt (IntKind.i64.wrap (x.2.2.2.2.2.1+1)) fun v325=>
kn ((),(),(),x.2.2.2.1,x.2.2.2.2.1,v325,()) (y.1,y.2.1,v324,())
else
lt (IntKind.i64.wrap (x.2.2.2.2.2.1+1)) fun v326=>
kn ((),(),(),x.2.2.2.1,x.2.2.2.2.1,v326,()) (y.1,y.2.1,v315,())
else
ke 0 ((),(),(),x.2.2.2.1,x.2.2.2.2.1,x.2.2.2.2.2.1,()) (y.1,y.2.1,y.2.2.1,())
def fu0 (x:X0) (y:Y0):Nat:=((4:Int) - x.2.2.2.2.2.1).toNat+1
def l0 (x:X0) (y:Y0):Bool×Nat×X0×Y0×U0×V0:=rounds (fun rq kn ke kr x y=>g0 rq kn ke kr x y) () () (fu0 x y) x y
def g {Z:Type} (rq:Bool→Z→Z) (rt:X→Z) (a:(List Int)) (kx:Int):Z:=
lt (ilt kx 1) fun v306=>
bif v306 then
rt a
else
lt (ile 256 kx) fun v307=>
bif v307 then
rt [0,0,0,0]
else
lt (IntKind.i64.wrap (kx.tdiv 64)) fun v308=>
lt (kx.tmod 64) fun (v309:Int)=>
lt (l9.l0 ((),(),(),v308,v309,v308,()) (a,[0,0,0,0],[0,0,0,0],())) fun w327=>
rq w327.1<|
rt w327.2.2.2.1.2.2.1
def r (a:(List Int)) (kx:Int):Bool×X:=g chk (fun x=>(true,x)) a kx
def D:aH:=Dof (P:=Tryz.prog) []
abbrev lf0:=dw (R:=Res) [1] (rounds (fun rq kn ke kr x y=>g0 rq kn ke kr x y) () ()) fu0
def tab:List (Nat×LE Res):= [(9,.typed (eY 51 sh0 bx0 aY aX aZ (lf0)))]
theorem bV:Nonempty (Told E0 D tab Tryz.f103.ntmps (aG (codeOf Tryz.f103) 0) 51 sh0 bx0 aY aX aZ lf0):=fH (sh:=sh0) (bx:=bx0) (ord:=aY) (shR:=aX) (bxR:=aZ) bX (by kernel_rfl) (by kernel_rfl) (by kernel_rfl) [1] _ _ _ @g0 (fun _ _ _ _ _=>by kernel_rfl) (by
  intro _ _ _ _ _ _ _ h i k x y
  simp only [g0]
  with_reducible repeat (first|(apply J.lt; intro _)|apply J.rq|apply J.bif|exact h _ _|exact i _ (by decide) _ _|exact k (by decide) _ _))
theorem bW:fQ E0 D tab Tryz.f103.ntmps (codeOf Tryz.f103):=bT (bs:= [aG (codeOf Tryz.f103) 0]) (by kernel_rfl) (aF (bP (by kernel_rfl) (bV)) aO)
abbrev aS:List AS:= [.one (.val (.arr 4 (.int .u64))),.one (.val (.int .i64))]
abbrev bS:List Ty:= []
def ent:Ent Tryz.prog:=bH (D:=D) (tab:=tab) hE0 (ay _) [true] Tryz.func103 (by kernel_rfl) bW aS bS res (fun x y=>r x.1 x.2.1) (fun x y=>g (fun c z=>req c z) (fun x=>some (res x)) x.1 x.2.1) (fun _ _=>by kernel_rfl) (by
 intro x y
 show J _ (g chk (fun x=>(true,x)) x.1 x.2.1) (g (fun c z=>req c z) (fun x=>some (res x)) x.1 x.2.1)
 unfold g
 with_reducible repeat (first|(apply J.lt; intro _)|apply J.rq|apply J.bif|exact J.rt rfl))
end l9
namespace jX
abbrev X:Type:=(List Int)×Int
def res (x:(List Int)×Int):Res:=⟨[.val ⟨.arr 4 (.int .u64),x.1⟩,.val ⟨.int .i64,x.2⟩],[],[]⟩
def g {Z:Type} (rq:Bool→Z→Z) (rt:X→Z) (a:(List Int)) (b:(List Int)):Z:=
lt (a.getD 0 0) fun (v351:Int)=>
lt (b.getD 0 0) fun (v352:Int)=>
lt ((v351 - v352 - (0:Int))%18446744073709551616) fun (v353:Int)=>
lt (bif ilt v351 (v352+(0:Int)) then (1:Int) else 0) fun (v354:Int)=>
rq ((((ile 0 v351&&ile 0 v352)&&ilt v352 18446744073709551616)&&ile 0 (0:Int))&&ile (0:Int) 1)<|
lt (a.getD 1 0) fun (v355:Int)=>
lt (b.getD 1 0) fun (v356:Int)=>
lt ((v355 - v356 - v354)%18446744073709551616) fun (v357:Int)=>
lt (bif ilt v355 (v356+v354) then (1:Int) else 0) fun (v358:Int)=>
rq ((((ile 0 v355&&ile 0 v356)&&ilt v356 18446744073709551616)&&ile 0 v354)&&ile v354 1)<|
lt (a.getD 2 0) fun (v359:Int)=>
lt (b.getD 2 0) fun (v360:Int)=>
lt ((v359 - v360 - v358)%18446744073709551616) fun (v361:Int)=>
lt (bif ilt v359 (v360+v358) then (1:Int) else 0) fun (v362:Int)=>
rq ((((ile 0 v359&&ile 0 v360)&&ilt v360 18446744073709551616)&&ile 0 v358)&&ile v358 1)<|
lt (a.getD 3 0) fun (v363:Int)=>
lt (b.getD 3 0) fun (v364:Int)=>
lt ((v363 - v364 - v362)%18446744073709551616) fun (v365:Int)=>
lt (bif ilt v363 (v364+v362) then (1:Int) else 0) fun (v366:Int)=>
rq ((((ile 0 v363&&ile 0 v364)&&ilt v364 18446744073709551616)&&ile 0 v362)&&ile v362 1)<|
lt (IntKind.i64.wrap (v366)) fun v367=>
rt ([v353,v357,v361,v365],v367)
def r (a:(List Int)) (b:(List Int)):Bool×X:=g chk (fun x=>(true,x)) a b
def D:aH:=Dof (P:=Tryz.prog) [A9]
def tab:List (Nat×LE Res):= []
abbrev aS:List AS:= [.one (.val (.arr 4 (.int .u64))),.one (.val (.arr 4 (.int .u64)))]
abbrev bS:List Ty:= []
def ent:Ent Tryz.prog:=bH (D:=D) (tab:=tab) hE0 (ay _) [true,true] Tryz.func120 (by kernel_rfl) aC aS bS res (fun x y=>r x.1 x.2.1) (fun x y=>g (fun c z=>req c z) (fun x=>some (res x)) x.1 x.2.1) (fun _ _=>by kernel_rfl) (by
 intro x y
 show J _ (g chk (fun x=>(true,x)) x.1 x.2.1) (g (fun c z=>req c z) (fun x=>some (res x)) x.1 x.2.1)
 unfold g
 with_reducible repeat (first|(apply J.lt; intro _)|apply J.rq|apply J.bif|exact J.rt rfl))
end jX
namespace jJ
abbrev X:Type:=Int
def res (x:Int):Res:=⟨[.val ⟨.int .i64,x⟩],[],[]⟩
def g {Z:Type} (rq:Bool→Z→Z) (rt:X→Z) (a:(List Int)) (b:(List Int)):Z:=
lt (a.getD 3 0) fun (v483:Int)=>
lt (b.getD 3 0) fun (v484:Int)=>
lt (ilt v483 v484) fun v485=>
bif v485 then
rt (-1)
else
lt (a.getD 3 0) fun (v486:Int)=>
lt (b.getD 3 0) fun (v487:Int)=>
lt (ilt v487 v486) fun v488=>
bif v488 then
rt 1
else
lt (a.getD 2 0) fun (v489:Int)=>
lt (b.getD 2 0) fun (v490:Int)=>
lt (ilt v489 v490) fun v491=>
bif v491 then
rt (-1)
else
lt (a.getD 2 0) fun (v492:Int)=>
lt (b.getD 2 0) fun (v493:Int)=>
lt (ilt v493 v492) fun v494=>
bif v494 then
rt 1
else
lt (a.getD 1 0) fun (v495:Int)=>
lt (b.getD 1 0) fun (v496:Int)=>
lt (ilt v495 v496) fun v497=>
bif v497 then
rt (-1)
else
lt (a.getD 1 0) fun (v498:Int)=>
lt (b.getD 1 0) fun (v499:Int)=>
lt (ilt v499 v498) fun v500=>
bif v500 then
rt 1
else
lt (a.getD 0 0) fun (v501:Int)=>
lt (b.getD 0 0) fun (v502:Int)=>
lt (ilt v501 v502) fun v503=>
bif v503 then
rt (-1)
else
lt (a.getD 0 0) fun (v504:Int)=>
lt (b.getD 0 0) fun (v505:Int)=>
lt (ilt v505 v504) fun v506=>
bif v506 then
rt 1
else
rt 0
def r (a:(List Int)) (b:(List Int)):Bool×X:=g chk (fun x=>(true,x)) a b
def D:aH:=Dof (P:=Tryz.prog) []
def tab:List (Nat×LE Res):= []
abbrev aS:List AS:= [.one (.val (.arr 4 (.int .u64))),.one (.val (.arr 4 (.int .u64)))]
abbrev bS:List Ty:= []
def ent:Ent Tryz.prog:=bH (D:=D) (tab:=tab) hE0 (ay _) [true] Tryz.func92 (by kernel_rfl) aC aS bS res (fun x y=>r x.1 x.2.1) (fun x y=>g (fun c z=>req c z) (fun x=>some (res x)) x.1 x.2.1) (fun _ _=>by kernel_rfl) (by
 intro x y
 show J _ (g chk (fun x=>(true,x)) x.1 x.2.1) (g (fun c z=>req c z) (fun x=>some (res x)) x.1 x.2.1)
 unfold g
 with_reducible repeat (first|(apply J.lt; intro _)|apply J.rq|apply J.bif|exact J.rt rfl))
end jJ
namespace dA
abbrev X:Type:=(List Int)×(List Int)
def res (x:(List Int)×(List Int)):Res:=⟨[.val ⟨.arr 4 (.int .u64),x.1⟩,.val ⟨.arr 4 (.int .u64),x.2⟩],[],[]⟩
abbrev sh0:List (Nat×Sh):= [(3,.pb 500000 (.arr 4 (.int .u64)) []),(4,.pb 500001 (.arr 4 (.int .u64)) []),(5,.pb 500002 (.arr 4 (.int .u64)) []),(6,.pb 500003 (.arr 4 (.int .u64)) []),(7,.pb 500004 (.arr 4 (.int .u64)) []),(8,.pb 500005 (.arr 4 (.int .u64)) []),(25,.p (.int .i64))]
abbrev bx0:List (Nat×Ty):= [(500000,.arr 4 (.int .u64)),(500001,.arr 4 (.int .u64)),(500002,.arr 4 (.int .u64)),(500003,.arr 4 (.int .u64)),(500004,.arr 4 (.int .u64)),(500005,.arr 4 (.int .u64))]
abbrev aY:List (Nat×Ty):= [(500000,.arr 4 (.int .u64)),(500001,.arr 4 (.int .u64)),(500002,.arr 4 (.int .u64)),(500003,.arr 4 (.int .u64)),(500004,.arr 4 (.int .u64)),(500005,.arr 4 (.int .u64))]
abbrev aX:List (Nat×Sh):= []
abbrev aZ:List (Nat×Ty):= []
abbrev bX:List (Nat×Ty):= []
abbrev X0:Type:=Unit×Unit×Unit×Unit×Unit×Unit×Int×Unit
abbrev Y0:Type:=(List Int)×(List Int)×(List Int)×(List Int)×(List Int)×(List Int)×Unit
abbrev U0:Type:=Unit
abbrev V0:Type:=Unit
def g0 {Z:Type} (rq:Bool→Z→Z) (kn:X0→Y0→Z) (ke:Nat→X0→Y0→Z) (kr:U0→V0→Z) (x:X0) (y:Y0):Z:=
lt (ilt x.2.2.2.2.2.2.1 256) fun v441=>
bif v441 then
lt (IntKind.i64.wrap ((255:Int) - x.2.2.2.2.2.2.1)) fun v442=>
lt (tu.r y.2.1 255) fun w443=>
rq w443.1<|
lt (l9.r y.2.1 1) fun w444=>
rq w444.1<|
lt (w444.2.getD 0 0) fun (v445:Int)=>
lt (tu.r y.1 v442) fun w446=>
rq w446.1<|
lt (IntKind.u64.wrap (w446.2)) fun v447=>
lt (eU .u64 (· ||| ·) v445 v447) fun v448=>
lt (w444.2.set 0 v448) fun (v449:(List Int))=>
lt (w443.2== 1) fun (v450:Bool)=>
bif v450 then
lt (jX.r v449 y.2.2.1) fun w451=>
rq w451.1<|
lt (IntKind.i64.wrap (v442.tdiv 64)) fun v452=>
rq (ile (0:Int) v452&&ilt v452 4)<|
lt (y.2.2.2.2.2.1.getD v452.toNat 0) fun (v453:Int)=>
lt (v442.tmod 64) fun (v454:Int)=>
lt (IntKind.u64.wrap ((1:Int)*2^(min v454.toNat 64))) fun v455=>
rq (!ilt v454 0)<|
lt (eU .u64 (· ||| ·) v453 v455) fun v456=>
rq (ile (0:Int) v452&&ilt v452 4)<|
lt (y.2.2.2.2.2.1.set v452.toNat v456) fun (v457:(List Int))=>
lt (IntKind.i64.wrap (x.2.2.2.2.2.2.1+1)) fun v458=>
kn ((),(),(),(),(),(),v458,()) (y.1,w451.2.1,y.2.2.1,y.2.2.2.1,y.2.2.2.2.1,v457,())
else
lt (jJ.r v449 y.2.2.1) fun w507=>
rq w507.1<|
lt (ile 0 w507.2) fun v508=>
bif v508 then
lt (jX.r v449 y.2.2.1) fun w509=>
rq w509.1<|
lt (IntKind.i64.wrap (v442.tdiv 64)) fun v510=>
rq (ile (0:Int) v510&&ilt v510 4)<|
lt (y.2.2.2.2.2.1.getD v510.toNat 0) fun (v511:Int)=>
lt (v442.tmod 64) fun (v512:Int)=>
lt (IntKind.u64.wrap ((1:Int)*2^(min v512.toNat 64))) fun v513=>
rq (!ilt v512 0)<|
lt (eU .u64 (· ||| ·) v511 v513) fun v514=>
rq (ile (0:Int) v510&&ilt v510 4)<|
lt (y.2.2.2.2.2.1.set v510.toNat v514) fun (v515:(List Int))=>
lt (IntKind.i64.wrap (x.2.2.2.2.2.2.1+1)) fun v516=>
kn ((),(),(),(),(),(),v516,()) (y.1,w509.2.1,y.2.2.1,y.2.2.2.1,y.2.2.2.2.1,v515,())
else
lt (IntKind.i64.wrap (x.2.2.2.2.2.2.1+1)) fun v517=>
kn ((),(),(),(),(),(),v517,()) (y.1,v449,y.2.2.1,y.2.2.2.1,y.2.2.2.2.1,y.2.2.2.2.2.1,())
else
ke 0 ((),(),(),(),(),(),x.2.2.2.2.2.2.1,()) (y.1,y.2.1,y.2.2.1,y.2.2.2.1,y.2.2.2.2.1,y.2.2.2.2.2.1,())
def fu0 (x:X0) (y:Y0):Nat:=((256:Int) - x.2.2.2.2.2.2.1).toNat+1
def l0 (x:X0) (y:Y0):Bool×Nat×X0×Y0×U0×V0:=rounds (fun rq kn ke kr x y=>g0 rq kn ke kr x y) () () (fu0 x y) x y
def g {Z:Type} (rq:Bool→Z→Z) (rt:X→Z) (a:(List Int)) (left:(List Int)) (m:(List Int)):Z:=
lt (m.getD 0 0) fun (v98:Int)=>
lt (ieq (m.getD 0 0) v98&&(ieq (m.getD 1 0) 0&&(ieq (m.getD 2 0) 0&&(ieq (m.getD 3 0) 0&&true)))) fun v99=>
bif v99 then
lt (left.getD 0 0) fun (v100:Int)=>
lt (m.getD 0 0) fun (v101:Int)=>
lt (nU.r a v100 v101) fun w296=>
rq w296.1<|
rt (w296.2.1,w296.2.2)
else
lt (dA.l0 ((),(),(),(),(),(),0,()) (a,left,m,[0,0,0,0],[0,0,0,0],[0,0,0,0],())) fun w518=>
rq w518.1<|
rt (w518.2.2.2.1.2.2.2.2.2.1,w518.2.2.2.1.2.1)
def r (a:(List Int)) (left:(List Int)) (m:(List Int)):Bool×X:=g chk (fun x=>(true,x)) a left m
def D:aH:=Dof (P:=Tryz.prog) [nU.ent,tu.ent,l9.ent,jX.ent,jJ.ent]
abbrev lf0:=dw (R:=Res) [1] (rounds (fun rq kn ke kr x y=>g0 rq kn ke kr x y) () ()) fu0
def tab:List (Nat×LE Res):= [(6,.typed (eY 68 sh0 bx0 aY aX aZ (lf0)))]
theorem bV:Nonempty (Told E0 D tab Tryz.f125.ntmps (aG (codeOf Tryz.f125) 0) 68 sh0 bx0 aY aX aZ lf0):=fH (sh:=sh0) (bx:=bx0) (ord:=aY) (shR:=aX) (bxR:=aZ) bX (by kernel_rfl) (by kernel_rfl) (by kernel_rfl) [1] _ _ _ @g0 (fun _ _ _ _ _=>by kernel_rfl) (by
  intro _ _ _ _ _ _ _ h i k x y
  simp only [g0]
  with_reducible repeat (first|(apply J.lt; intro _)|apply J.rq|apply J.bif|exact h _ _|exact i _ (by decide) _ _|exact k (by decide) _ _))
theorem bW:fQ E0 D tab Tryz.f125.ntmps (codeOf Tryz.f125):=bT (bs:= [aG (codeOf Tryz.f125) 0]) (by kernel_rfl) (aF (bP (by kernel_rfl) (bV)) aO)
abbrev aS:List AS:= [.one (.val (.arr 4 (.int .u64))),.one (.val (.arr 4 (.int .u64))),.one (.val (.arr 4 (.int .u64)))]
abbrev bS:List Ty:= []
def ent:Ent Tryz.prog:=bH (D:=D) (tab:=tab) hE0 (ay _) [true,true] Tryz.func125 (by kernel_rfl) bW aS bS res (fun x y=>r x.1 x.2.1 x.2.2.1) (fun x y=>g (fun c z=>req c z) (fun x=>some (res x)) x.1 x.2.1 x.2.2.1) (fun _ _=>by kernel_rfl) (by
 intro x y
 show J _ (g chk (fun x=>(true,x)) x.1 x.2.1 x.2.2.1) (g (fun c z=>req c z) (fun x=>some (res x)) x.1 x.2.1 x.2.2.1)
 unfold g
 with_reducible repeat (first|(apply J.lt; intro _)|apply J.rq|apply J.bif|exact J.rt rfl))
end dA
namespace gM
abbrev X:Type:=(List Int)×Int
def res (x:(List Int)×Int):Res:=⟨[.val ⟨.arr 4 (.int .u64),x.1⟩,.val ⟨.int .i64,x.2⟩],[],[]⟩
def g {Z:Type} (rq:Bool→Z→Z) (rt:X→Z) (low:(List Int)) (high:(List Int)) (m:(List Int)):Z:=
lt (ieq (m.getD 0 0) 0&&(ieq (m.getD 1 0) 0&&(ieq (m.getD 2 0) 0&&(ieq (m.getD 3 0) 0&&true)))) fun v97=>
bif v97 then
rt ([0,0,0,0],1)
else
lt (dA.r high [0,0,0,0] m) fun w519=>
rq w519.1<|
lt (dA.r low w519.2.2 m) fun w520=>
rq w520.1<|
rt (w520.2.2,0)
def r (low:(List Int)) (high:(List Int)) (m:(List Int)):Bool×X:=g chk (fun x=>(true,x)) low high m
def D:aH:=Dof (P:=Tryz.prog) [dA.ent]
def tab:List (Nat×LE Res):= []
abbrev aS:List AS:= [.one (.val (.arr 4 (.int .u64))),.one (.val (.arr 4 (.int .u64))),.one (.val (.arr 4 (.int .u64)))]
abbrev bS:List Ty:= []
def ent:Ent Tryz.prog:=bH (D:=D) (tab:=tab) hE0 (ay _) [true,true] Tryz.func88 (by kernel_rfl) aC aS bS res (fun x y=>r x.1 x.2.1 x.2.2.1) (fun x y=>g (fun c z=>req c z) (fun x=>some (res x)) x.1 x.2.1 x.2.2.1) (fun _ _=>by kernel_rfl) (by
 intro x y
 show J _ (g chk (fun x=>(true,x)) x.1 x.2.1 x.2.2.1) (g (fun c z=>req c z) (fun x=>some (res x)) x.1 x.2.1 x.2.2.1)
 unfold g
 with_reducible repeat (first|(apply J.lt; intro _)|apply J.rq|apply J.bif|exact J.rt rfl))
end gM
namespace iF
abbrev X:Type:=Int×Int
def res (x:Int×Int):Res:=⟨[.val ⟨.int .u64,x.1⟩,.val ⟨.int .u64,x.2⟩],[],[]⟩
def g {Z:Type} (rq:Bool→Z→Z) (rt:X→Z) (xx:Int) (yx:Int):Z:=
lt (eU .u64 (· &&& ·) xx (4294967295:Int)) fun v524=>
lt (xx.fdiv (2^32)) fun (v525:Int)=>
lt (eU .u64 (· &&& ·) yx (4294967295:Int)) fun v526=>
lt (yx.fdiv (2^32)) fun (v527:Int)=>
lt (IntKind.u64.wrap (v524*v526)) fun v528=>
lt (IntKind.u64.wrap (v525*v526)) fun v529=>
lt (v528.fdiv (2^32)) fun (v530:Int)=>
lt (IntKind.u64.wrap (v529+v530)) fun v531=>
lt (eU .u64 (· &&& ·) v531 (4294967295:Int)) fun v532=>
lt (v531.fdiv (2^32)) fun (v533:Int)=>
lt (IntKind.u64.wrap (v524*v527)) fun v534=>
lt (IntKind.u64.wrap (v532+v534)) fun v535=>
lt (IntKind.u64.wrap (v525*v527)) fun v536=>
lt (IntKind.u64.wrap (v536+v533)) fun v537=>
lt (v535.fdiv (2^32)) fun (v538:Int)=>
lt (IntKind.u64.wrap (v537+v538)) fun v539=>
lt (IntKind.u64.wrap (xx*yx)) fun v540=>
rt (v539,v540)
def r (xx:Int) (yx:Int):Bool×X:=g chk (fun x=>(true,x)) xx yx
def D:aH:=Dof (P:=Tryz.prog) []
def tab:List (Nat×LE Res):= []
abbrev aS:List AS:= [.one (.val (.int .u64)),.one (.val (.int .u64))]
abbrev bS:List Ty:= []
def ent:Ent Tryz.prog:=bH (D:=D) (tab:=tab) hE0 (ay _) [true,true] Tryz.func105 (by kernel_rfl) aC aS bS res (fun x y=>r x.1 x.2.1) (fun x y=>g (fun c z=>req c z) (fun x=>some (res x)) x.1 x.2.1) (fun _ _=>by kernel_rfl) (by
 intro x y
 show J _ (g chk (fun x=>(true,x)) x.1 x.2.1) (g (fun c z=>req c z) (fun x=>some (res x)) x.1 x.2.1)
 unfold g
 with_reducible repeat (first|(apply J.lt; intro _)|apply J.rq|apply J.bif|exact J.rt rfl))
end iF
namespace bC
abbrev X:Type:=(List Int)×Int×(List Int)×(List Int)×Int
def res (x:(List Int)×Int×(List Int)×(List Int)×Int):Res:=⟨[],[some ⟨.arr 4 (.int .u64),x.1⟩,some ⟨.int .i64,x.2.1⟩,some ⟨.arr 4 (.int .u64),x.2.2.1⟩,some ⟨.arr 8 (.int .u64),x.2.2.2.1⟩,some ⟨.int .u64,x.2.2.2.2⟩],[]⟩
def g {Z:Type} (rq:Bool→Z→Z) (rt:X→Z) (kx:Int) (b:(List Int)) (bx:Int) (bx1:(List Int)) (bx11:(List Int)) (bx111:Int):Z:=
rq (ile (0:Int) bx&&ilt bx 4)<|
lt (b.getD bx.toNat 0) fun (v522:Int)=>
rq (ile (0:Int) kx&&ilt kx 4)<|
lt (bx1.getD kx.toNat 0) fun (v523:Int)=>
lt (iF.r v522 v523) fun w541=>
rq w541.1<|
lt (IntKind.i64.wrap (bx+kx)) fun v542=>
rq (ile (0:Int) v542&&ilt v542 8)<|
lt (bx11.getD v542.toNat 0) fun (v543:Int)=>
lt ((w541.2.2+v543+(0:Int))%18446744073709551616) fun (v544:Int)=>
lt ((w541.2.2+v543+(0:Int))/18446744073709551616) fun (v545:Int)=>
rq (((ile 0 w541.2.2&&ile 0 v543)&&ile 0 (0:Int))&&ile (0:Int) 1)<|
lt (IntKind.u64.wrap (w541.2.1+v545)) fun v546=>
lt ((v544+bx111+(0:Int))%18446744073709551616) fun (v547:Int)=>
lt ((v544+bx111+(0:Int))/18446744073709551616) fun (v548:Int)=>
rq (((ile 0 v544&&ile 0 bx111)&&ile 0 (0:Int))&&ile (0:Int) 1)<|
lt (IntKind.i64.wrap (bx+kx)) fun v549=>
lt (IntKind.u64.wrap (v546+v548)) fun v550=>
rq (ile (0:Int) v549&&ilt v549 8)<|
lt (bx11.set v549.toNat v547) fun (v551:(List Int))=>
rt (b,bx,bx1,v551,v550)
def r (kx:Int) (b:(List Int)) (bx:Int) (bx1:(List Int)) (bx11:(List Int)) (bx111:Int):Bool×X:=g chk (fun x=>(true,x)) kx b bx bx1 bx11 bx111
def D:aH:=Dof (P:=Tryz.prog) [iF.ent,qz]
def tab:List (Nat×LE Res):= []
abbrev aS:List AS:= [.one (.val (.int .i64)),.one (.pb 1000000 (.arr 4 (.int .u64)) []),.one (.pb 1000001 (.int .i64) []),.one (.pb 1000002 (.arr 4 (.int .u64)) []),.one (.pb 1000003 (.arr 8 (.int .u64)) []),.one (.pb 1000004 (.int .u64) [])]
abbrev bS:List Ty:= [.arr 4 (.int .u64),.int .i64,.arr 4 (.int .u64),.arr 8 (.int .u64),.int .u64]
def ent:Ent Tryz.prog:=bH (D:=D) (tab:=tab) hE0 (ay _) [] Tryz.func145 (by kernel_rfl) aC aS bS res (fun x y=>r x.1 y.1 y.2.1 y.2.2.1 y.2.2.2.1 y.2.2.2.2.1) (fun x y=>g (fun c z=>req c z) (fun x=>some (res x)) x.1 y.1 y.2.1 y.2.2.1 y.2.2.2.1 y.2.2.2.2.1) (fun _ _=>by kernel_rfl) (by
 intro x y
 show J _ (g chk (fun x=>(true,x)) x.1 y.1 y.2.1 y.2.2.1 y.2.2.2.1 y.2.2.2.2.1) (g (fun c z=>req c z) (fun x=>some (res x)) x.1 y.1 y.2.1 y.2.2.1 y.2.2.2.1 y.2.2.2.2.1)
 unfold g
 with_reducible repeat (first|(apply J.lt; intro _)|apply J.rq|apply J.bif|exact J.rt rfl))
end bC
namespace nk
abbrev X:Type:=(List Int)×(List Int)
def res (x:(List Int)×(List Int)):Res:=⟨[.val ⟨.arr 4 (.int .u64),x.1⟩,.val ⟨.arr 4 (.int .u64),x.2⟩],[],[]⟩
def g {Z:Type} (rq:Bool→Z→Z) (rt:X→Z) (a:(List Int)) (b:(List Int)):Z:=
lt (bC.r 0 a 0 b [0,0,0,0,0,0,0,0] 0) fun w584=>
rq w584.1<|
lt (bC.r 1 w584.2.1 w584.2.2.1 w584.2.2.2.1 w584.2.2.2.2.1 w584.2.2.2.2.2) fun w585=>
rq w585.1<|
lt (bC.r 2 w585.2.1 w585.2.2.1 w585.2.2.2.1 w585.2.2.2.2.1 w585.2.2.2.2.2) fun w586=>
rq w586.1<|
lt (bC.r 3 w586.2.1 w586.2.2.1 w586.2.2.2.1 w586.2.2.2.2.1 w586.2.2.2.2.2) fun w587=>
rq w587.1<|
lt (IntKind.i64.wrap (w587.2.2.1+4)) fun v588=>
rq (ile (0:Int) v588&&ilt v588 8)<|
lt (w587.2.2.2.2.1.set v588.toNat w587.2.2.2.2.2) fun (v589:(List Int))=>
lt (bC.r 0 w587.2.1 1 w587.2.2.2.1 v589 0) fun w590=>
rq w590.1<|
lt (bC.r 1 w590.2.1 w590.2.2.1 w590.2.2.2.1 w590.2.2.2.2.1 w590.2.2.2.2.2) fun w591=>
rq w591.1<|
lt (bC.r 2 w591.2.1 w591.2.2.1 w591.2.2.2.1 w591.2.2.2.2.1 w591.2.2.2.2.2) fun w592=>
rq w592.1<|
lt (bC.r 3 w592.2.1 w592.2.2.1 w592.2.2.2.1 w592.2.2.2.2.1 w592.2.2.2.2.2) fun w593=>
rq w593.1<|
lt (IntKind.i64.wrap (w593.2.2.1+4)) fun v594=>
rq (ile (0:Int) v594&&ilt v594 8)<|
lt (w593.2.2.2.2.1.set v594.toNat w593.2.2.2.2.2) fun (v595:(List Int))=>
lt (bC.r 0 w593.2.1 2 w593.2.2.2.1 v595 0) fun w596=>
rq w596.1<|
lt (bC.r 1 w596.2.1 w596.2.2.1 w596.2.2.2.1 w596.2.2.2.2.1 w596.2.2.2.2.2) fun w597=>
rq w597.1<|
lt (bC.r 2 w597.2.1 w597.2.2.1 w597.2.2.2.1 w597.2.2.2.2.1 w597.2.2.2.2.2) fun w598=>
rq w598.1<|
lt (bC.r 3 w598.2.1 w598.2.2.1 w598.2.2.2.1 w598.2.2.2.2.1 w598.2.2.2.2.2) fun w599=>
rq w599.1<|
lt (IntKind.i64.wrap (w599.2.2.1+4)) fun v600=>
rq (ile (0:Int) v600&&ilt v600 8)<|
lt (w599.2.2.2.2.1.set v600.toNat w599.2.2.2.2.2) fun (v601:(List Int))=>
lt (bC.r 0 w599.2.1 3 w599.2.2.2.1 v601 0) fun w602=>
rq w602.1<|
lt (bC.r 1 w602.2.1 w602.2.2.1 w602.2.2.2.1 w602.2.2.2.2.1 w602.2.2.2.2.2) fun w603=>
rq w603.1<|
lt (bC.r 2 w603.2.1 w603.2.2.1 w603.2.2.2.1 w603.2.2.2.2.1 w603.2.2.2.2.2) fun w604=>
rq w604.1<|
lt (bC.r 3 w604.2.1 w604.2.2.1 w604.2.2.2.1 w604.2.2.2.2.1 w604.2.2.2.2.2) fun w605=>
rq w605.1<|
lt (IntKind.i64.wrap (w605.2.2.1+4)) fun v606=>
rq (ile (0:Int) v606&&ilt v606 8)<|
lt (w605.2.2.2.2.1.set v606.toNat w605.2.2.2.2.2) fun (v607:(List Int))=>
lt (v607.take 4) fun (v608:(List Int))=>
lt ((v607.drop 4).take 4) fun (v609:(List Int))=>
rt (v608,v609)
def r (a:(List Int)) (b:(List Int)):Bool×X:=g chk (fun x=>(true,x)) a b
def D:aH:=Dof (P:=Tryz.prog) [bC.ent]
def tab:List (Nat×LE Res):= []
abbrev aS:List AS:= [.one (.val (.arr 4 (.int .u64))),.one (.val (.arr 4 (.int .u64)))]
abbrev bS:List Ty:= []
def ent:Ent Tryz.prog:=bH (D:=D) (tab:=tab) hE0 (ay _) [true,true] Tryz.func122 (by kernel_rfl) aC aS bS res (fun x y=>r x.1 x.2.1) (fun x y=>g (fun c z=>req c z) (fun x=>some (res x)) x.1 x.2.1) (fun _ _=>by kernel_rfl) (by
 intro x y
 show J _ (g chk (fun x=>(true,x)) x.1 x.2.1) (g (fun c z=>req c z) (fun x=>some (res x)) x.1 x.2.1)
 unfold g
 with_reducible repeat (first|(apply J.lt; intro _)|apply J.rq|apply J.bif|exact J.rt rfl))
end nk
namespace jQ
abbrev X:Type:=(List Int)×Int
def res (x:(List Int)×Int):Res:=⟨[.val ⟨.arr 4 (.int .u64),x.1⟩,.val ⟨.int .i64,x.2⟩],[],[]⟩
def g {Z:Type} (rq:Bool→Z→Z) (rt:X→Z) (a:(List Int)) (b:(List Int)) (m:(List Int)):Z:=
lt (nk.r a b) fun w610=>
rq w610.1<|
lt (gM.r w610.2.1 w610.2.2 m) fun w611=>
rq w611.1<|
rt (w611.2.1,w611.2.2)
def r (a:(List Int)) (b:(List Int)) (m:(List Int)):Bool×X:=g chk (fun x=>(true,x)) a b m
def D:aH:=Dof (P:=Tryz.prog) [nk.ent,gM.ent]
def tab:List (Nat×LE Res):= []
abbrev aS:List AS:= [.one (.val (.arr 4 (.int .u64))),.one (.val (.arr 4 (.int .u64))),.one (.val (.arr 4 (.int .u64)))]
abbrev bS:List Ty:= []
def ent:Ent Tryz.prog:=bH (D:=D) (tab:=tab) hE0 (ay _) [true,true] Tryz.func89 (by kernel_rfl) aC aS bS res (fun x y=>r x.1 x.2.1 x.2.2.1) (fun x y=>g (fun c z=>req c z) (fun x=>some (res x)) x.1 x.2.1 x.2.2.1) (fun _ _=>by kernel_rfl) (by
 intro x y
 show J _ (g chk (fun x=>(true,x)) x.1 x.2.1 x.2.2.1) (g (fun c z=>req c z) (fun x=>some (res x)) x.1 x.2.1 x.2.2.1)
 unfold g
 with_reducible repeat (first|(apply J.lt; intro _)|apply J.rq|apply J.bif|exact J.rt rfl))
end jQ
end Go.Own
