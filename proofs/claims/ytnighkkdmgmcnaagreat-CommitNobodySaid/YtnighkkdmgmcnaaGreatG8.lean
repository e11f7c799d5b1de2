/- What functions compute, printed by wip/gen/gen2.py. -/
import Derived.Test.YtnighkkdmgmcnaaGreatG7
set_option linter.unusedVariables false
set_option linter.unusedSimpArgs false
set_option maxRecDepth 100000
noncomputable section
namespace Go.Own
open Go.Proofs Go.Proofs.YtnighkkdmgmcnaaGreat
namespace bQ
abbrev X:Type:=Bool
def res (x:Bool):Res:=⟨[.val ⟨.bool,x⟩],[],[]⟩
def brn (w:Bool×X):Brn Res:= .one w.1 (res w.2)
theorem bM (w:Bool×X):(brn w).res=(w.1,res w.2):=rfl
abbrev sh0:List (Nat×Sh):= [(0,.p (.sl (.arr 4 (.int .u64)))),(1,.p (.sl (.arr 4 (.int .u64)))),(4,.p .bool),(5,.p (.int .i64))]
abbrev bx0:List (Nat×Ty):= []
abbrev bD:List (Nat×Ty):= []
abbrev bB:List (Nat×Sh):= [(4,.p .bool)]
abbrev bE:List (Nat×Ty):= []
abbrev dA:List (Nat×Ty):= []
abbrev X0:Type:=(List (List Int))×(List (List Int))×Bool×Int×Unit
abbrev Y0:Type:=Unit
abbrev U0:Type:=Bool×Unit
abbrev V0:Type:=Unit
def g0 {Z:Type} (rq:Bool→Z→Z) (kn:X0→Y0→Z) (ke:Nat→X0→Y0→Z) (kr:U0→V0→Z) (x:X0) (y:Y0):Z:=
lt (x.1.length:Int) fun (v1756:Int)=>
lt (ilt x.2.2.2.1 v1756) fun v1757=>
bif v1757 then
lt (x.1.getD x.2.2.2.1.toNat [0,0,0,0]) fun (v1758:(List Int))=>
rq (ile (0:Int) x.2.2.2.1&&ilt x.2.2.2.1 (x.1.length:Int))<|
lt (x.2.1.getD x.2.2.2.1.toNat [0,0,0,0]) fun (v1759:(List Int))=>
rq (ile (0:Int) x.2.2.2.1&&ilt x.2.2.2.1 (x.2.1.length:Int))<|
lt (!(ieq (v1758.getD 0 0) (v1759.getD 0 0)&&(ieq (v1758.getD 1 0) (v1759.getD 1 0)&&(ieq (v1758.getD 2 0) (v1759.getD 2 0)&&(ieq (v1758.getD 3 0) (v1759.getD 3 0)&&true))))) fun (v1760:Bool)=>
bif v1760 then
kr (false,()) ()
else
lt (IntKind.i64.wrap (x.2.2.2.1+1)) fun v1761=>
kn (x.1,x.2.1,x.2.2.1,v1761,()) ()
else
ke 0 (x.1,x.2.1,x.2.2.1,x.2.2.2.1,()) ()
def fu0 (x:X0) (y:Y0):Nat:=((x.1.length:Int) - x.2.2.2.1).toNat+1
def l0 (x:X0) (y:Y0):Bool×Nat×X0×Y0×U0×V0:=rounds (fun rq kn ke kr x y=>g0 rq kn ke kr x y) (false,()) () (fu0 x y) x y
def g {Z:Type} (rq:Bool→Z→Z) (rt:X→Z) (a:(List (List Int))) (b:(List (List Int))):Z:=
lt (a.length:Int) fun (v1751:Int)=>
lt (b.length:Int) fun (v1752:Int)=>
lt (v1751 != v1752) fun (v1753:Bool)=>
bif v1753 then
rt false
else
lt (bQ.l0 (a,b,false,0,()) ()) fun w1762=>
rq w1762.1<|
bif Nat.beq w1762.2.1 0 then
rt w1762.2.2.2.2.1.1
else
rt true
def r (a:(List (List Int))) (b:(List (List Int))):Bool×X:=g chk (fun x=>(true,x)) a b
def D:aG:=Dof (P:=Tryz.prog) []
abbrev lf0:=dJ (R:=Res) [0,1] (rounds (fun rq kn ke kr x y=>g0 rq kn ke kr x y) (false,()) ()) fu0
def tab:List (Nat×LE Res):= [(5,.typed (fC 26 sh0 bx0 bD bB bE (lf0)))]
theorem run (a:(List (List Int))) (b:(List (List Int))):gm E0 [true] D (ic E0 D tab 9) Tryz.f19 (codeOf Tryz.f19) [.val ⟨.sl (.arr 4 (.int .u64)),a⟩,.val ⟨.sl (.arr 4 (.int .u64)),b⟩] []=g (fun c z=>req c z) (fun x=>some (res x)) a b:=by kernel_rfl
theorem rel (a:(List (List Int))) (b:(List (List Int))):J (fun w z=>z=some (res w)) (g chk (fun x=>(true,x)) a b) (g (fun c z=>req c z) (fun x=>some (res x)) a b):=by
 unfold g
 with_reducible repeat (first|(apply J.lt; intro _)|apply J.rq|apply J.bif|exact J.rt rfl)
theorem dn:Nonempty (Told E0 D tab Tryz.f19.ntmps (aJ (codeOf Tryz.f19) 0) 26 sh0 bx0 bD bB bE lf0):=fJ (sh:=sh0) (bx:=bx0) (ord:=bD) (shR:=bB) (bxR:=bE) dA (by kernel_rfl) (by kernel_rfl) (by kernel_rfl) [0,1] _ _ _ @g0 (fun _ _ _ _ _=>by kernel_rfl) (by
  intro _ _ _ _ _ _ _ h i k x y
  simp only [g0]
  with_reducible repeat (first|(apply J.lt; intro _)|apply J.rq|apply J.bif|exact h _ _|exact i _ (by decide) _ _|exact k (by decide) _ _))
theorem dw:fQ E0 D tab Tryz.f19.ntmps (codeOf Tryz.f19):=cZ (bs:= [aJ (codeOf Tryz.f19) 0]) (by kernel_rfl) (aI (bY (by kernel_rfl) (dn)) aW)
theorem ok:mU Tryz.f19=true:=by kernel_rfl
abbrev aS:List AS:= [.one (.val (.sl (.arr 4 (.int .u64)))),.one (.val (.sl (.arr 4 (.int .u64))))]
abbrev bS:List Ty:= []
def F (x:ASs aS) (y:Bs bS):Brn Res:=brn (r x.1 x.2.1)
theorem good (x:ASs aS) (y:Bs bS) (h:(F x y).res.1=true):Good Tryz.prog 19 (ASs.mk aS x) (Bs.mk bS y) (F x y).res.2:=
 fu hE0 (ay _) Tryz.func19 ok dw bM (run x.1 x.2.1) (rel x.1 x.2.1) h
def ent:Ent Tryz.prog:=⟨19,shF aS bS F,bC good⟩
def ro:(List (List Int))→(List (List Int))→Bool×X:=Classical.choose (⟨r,rfl⟩:∃ q:(List (List Int))→(List (List Int))→Bool×X,q=r)
theorem fK:ro=r:=Classical.choose_spec (⟨r,rfl⟩:∃ q:(List (List Int))→(List (List Int))→Bool×X,q=r)
def FO (x:ASs aS) (y:Bs bS):Brn Res:=brn (ro x.1 x.2.1)
theorem jv:FO=F:=by unfold FO F; rw [fK]
def nC:Ent Tryz.prog:=⟨19,shF aS bS FO,bC (by rw [jv]; exact good)⟩
end bQ
namespace eY
abbrev X:Type:=Int
def res (x:Int):Res:=⟨[.val ⟨.int .i64,x⟩],[],[]⟩
def brn (w:Bool×X):Brn Res:= .one w.1 (res w.2)
theorem bM (w:Bool×X):(brn w).res=(w.1,res w.2):=rfl
def g {Z:Type} (rq:Bool→Z→Z) (rt:X→Z) (a:Int) (b:Int) (m:Int):Z:=
lt (a.tmod m) fun (v1772:Int)=>
rq (!ieq m 0)<|
lt (IntKind.u64.wrap (v1772)) fun v1773=>
lt (b.tmod m) fun (v1774:Int)=>
rq (!ieq m 0)<|
lt (IntKind.u64.wrap (v1774)) fun v1775=>
lt (gZ.r v1773 v1775) fun w1776=>
rq w1776.1<|
lt (IntKind.u64.wrap (m)) fun v1777=>
lt (eD.r w1776.2.1 w1776.2.2 v1777) fun w1778=>
rq w1778.1<|
lt (IntKind.i64.wrap (w1778.2.2)) fun v1779=>
rt v1779
def r (a:Int) (b:Int) (m:Int):Bool×X:=g chk (fun x=>(true,x)) a b m
def D:aG:=Dof (P:=Tryz.prog) [gZ.ent,eD.ent]
def tab:List (Nat×LE Res):= []
theorem run (a:Int) (b:Int) (m:Int):gm E0 [true] D (ic E0 D tab 9) Tryz.f73 (codeOf Tryz.f73) [.val ⟨.int .i64,a⟩,.val ⟨.int .i64,b⟩,.val ⟨.int .i64,m⟩] []=g (fun c z=>req c z) (fun x=>some (res x)) a b m:=by kernel_rfl
theorem rel (a:Int) (b:Int) (m:Int):J (fun w z=>z=some (res w)) (g chk (fun x=>(true,x)) a b m) (g (fun c z=>req c z) (fun x=>some (res x)) a b m):=by
 unfold g
 with_reducible repeat (first|(apply J.lt; intro _)|apply J.rq|apply J.bif|exact J.rt rfl)
theorem ok:mU Tryz.f73=true:=by kernel_rfl
abbrev aS:List AS:= [.one (.val (.int .i64)),.one (.val (.int .i64)),.one (.val (.int .i64))]
abbrev bS:List Ty:= []
def F (x:ASs aS) (y:Bs bS):Brn Res:=brn (r x.1 x.2.1 x.2.2.1)
theorem good (x:ASs aS) (y:Bs bS) (h:(F x y).res.1=true):Good Tryz.prog 73 (ASs.mk aS x) (Bs.mk bS y) (F x y).res.2:=
 fu hE0 (ay _) Tryz.func73 ok aD bM (run x.1 x.2.1 x.2.2.1) (rel x.1 x.2.1 x.2.2.1) h
def ent:Ent Tryz.prog:=⟨73,shF aS bS F,bC good⟩
def ro:Int→Int→Int→Bool×X:=Classical.choose (⟨r,rfl⟩:∃ q:Int→Int→Int→Bool×X,q=r)
theorem fK:ro=r:=Classical.choose_spec (⟨r,rfl⟩:∃ q:Int→Int→Int→Bool×X,q=r)
def FO (x:ASs aS) (y:Bs bS):Brn Res:=brn (ro x.1 x.2.1 x.2.2.1)
theorem jv:FO=F:=by unfold FO F; rw [fK]
def nC:Ent Tryz.prog:=⟨73,shF aS bS FO,bC (by rw [jv]; exact good)⟩
end eY
namespace gB
abbrev X:Type:=Int
def res (x:Int):Res:=⟨[.val ⟨.int .i64,x⟩],[],[]⟩
def brn (w:Bool×X):Brn Res:= .one w.1 (res w.2)
theorem bM (w:Bool×X):(brn w).res=(w.1,res w.2):=rfl
def g {Z:Type} (rq:Bool→Z→Z) (rt:X→Z) (a:(List Int)) (kx:Int):Z:=
lt (bR.r a) fun w1781=>
rq w1781.1<|
lt (List.replicate 256 false) fun (v1782:(List Bool))=>
lt (ile 0 kx) fun v1783=>
bif v1783 then
lt (ilt kx 256) fun v1784=>
bif v1784 then
rq (ile (0:Int) kx&&ilt kx 256)<|
lt (w1781.2.getD kx.toNat false) fun (v1785:Bool)=>
bif v1785 then
rt 1
else
rt 0
else
rt 0
else
rt 0
def r (a:(List Int)) (kx:Int):Bool×X:=g chk (fun x=>(true,x)) a kx
def D:aG:=Dof (P:=Tryz.prog) [bR.ent]
def tab:List (Nat×LE Res):= []
theorem run (a:(List Int)) (kx:Int):gm E0 [true] D (ic E0 D tab 9) Tryz.f94 (codeOf Tryz.f94) [.val ⟨.arr 4 (.int .u64),a⟩,.val ⟨.int .i64,kx⟩] []=g (fun c z=>req c z) (fun x=>some (res x)) a kx:=by kernel_rfl
theorem rel (a:(List Int)) (kx:Int):J (fun w z=>z=some (res w)) (g chk (fun x=>(true,x)) a kx) (g (fun c z=>req c z) (fun x=>some (res x)) a kx):=by
 unfold g
 with_reducible repeat (first|(apply J.lt; intro _)|apply J.rq|apply J.bif|exact J.rt rfl)
theorem ok:mU Tryz.f94=true:=by kernel_rfl
abbrev aS:List AS:= [.one (.val (.arr 4 (.int .u64))),.one (.val (.int .i64))]
abbrev bS:List Ty:= []
def F (x:ASs aS) (y:Bs bS):Brn Res:=brn (r x.1 x.2.1)
theorem good (x:ASs aS) (y:Bs bS) (h:(F x y).res.1=true):Good Tryz.prog 94 (ASs.mk aS x) (Bs.mk bS y) (F x y).res.2:=
 fu hE0 (ay _) Tryz.func94 ok aD bM (run x.1 x.2.1) (rel x.1 x.2.1) h
def ent:Ent Tryz.prog:=⟨94,shF aS bS F,bC good⟩
def ro:(List Int)→Int→Bool×X:=Classical.choose (⟨r,rfl⟩:∃ q:(List Int)→Int→Bool×X,q=r)
theorem fK:ro=r:=Classical.choose_spec (⟨r,rfl⟩:∃ q:(List Int)→Int→Bool×X,q=r)
def FO (x:ASs aS) (y:Bs bS):Brn Res:=brn (ro x.1 x.2.1)
theorem jv:FO=F:=by unfold FO F; rw [fK]
def nC:Ent Tryz.prog:=⟨94,shF aS bS FO,bC (by rw [jv]; exact good)⟩
end gB
namespace di
abbrev X:Type:=Int
def res (x:Int):Res:=⟨[.val ⟨.int .i64,x⟩],[],[]⟩
abbrev sh0:List (Nat×Sh):= [(0,.p (.int .i64)),(2,.p (.int .i64)),(4,.pb 500000 (.arr 4 (.int .u64)) []),(6,.p (.int .i64)),(7,.p (.int .i64)),(8,.p (.int .i64))]
abbrev bx0:List (Nat×Ty):= [(500000,.arr 4 (.int .u64))]
abbrev bD:List (Nat×Ty):= [(500000,.arr 4 (.int .u64))]
abbrev bB:List (Nat×Sh):= []
abbrev bE:List (Nat×Ty):= []
abbrev dA:List (Nat×Ty):= []
abbrev X0:Type:=Int×Int×Unit×Int×Int×Int×Unit
abbrev Y0:Type:=(List Int)×Unit
abbrev U0:Type:=Unit
abbrev V0:Type:=Unit
def g0 {Z:Type} (rq:Bool→Z→Z) (kn:X0→Y0→Z) (ke:Nat→X0→Y0→Z) (kr:U0→V0→Z) (x:X0) (y:Y0):Z:=
lt (ile 0 x.2.2.2.2.2.1) fun v1771=>
bif v1771 then
lt (eY.ro x.2.2.2.2.1 x.2.2.2.2.1 x.2.1) fun w1780=>
rq w1780.1<|
lt (gB.ro y.1 x.2.2.2.2.2.1) fun w1786=>
rq w1786.1<|
lt (w1786.2== 1) fun (v1787:Bool)=>
bif v1787 then
lt (eY.ro w1780.2 x.1 x.2.1) fun w1788=>
rq w1788.1<|
lt (IntKind.i64.wrap (x.2.2.2.2.2.1 - 1)) fun v1789=>
kn (x.1,x.2.1,(),x.2.2.2.1,w1788.2,v1789,()) (y.1,())
else
lt (IntKind.i64.wrap (x.2.2.2.2.2.1 - 1)) fun v1790=>
kn (x.1,x.2.1,(),x.2.2.2.1,w1780.2,v1790,()) (y.1,())
else
ke 0 (x.1,x.2.1,(),x.2.2.2.1,x.2.2.2.2.1,x.2.2.2.2.2.1,()) (y.1,())
def fu0 (x:X0) (y:Y0):Nat:=(x.2.2.2.2.2.1 - (0:Int)+1).toNat+1
def l0 (x:X0) (y:Y0):Bool×Nat×X0×Y0×U0×V0:=rounds (fun rq kn ke kr x y=>g0 rq kn ke kr x y) () () (fu0 x y) x y
def g {Z:Type} (rq:Bool→Z→Z) (rt:X→Z) (a:Int) (e:(List Int)) (m:Int):Z:=
lt ((1:Int).tmod m) fun (v1767:Int)=>
rq (!ieq m 0)<|
lt (aZ.r e) fun w1768=>
rq w1768.1<|
lt (IntKind.i64.wrap (w1768.2 - 1)) fun v1769=>
lt (di.l0 (a,m,(),0,v1767,v1769,()) (e,())) fun w1791=>
rq w1791.1<|
rt w1791.2.2.1.2.2.2.2.1
def r (a:Int) (e:(List Int)) (m:Int):Bool×X:=g chk (fun x=>(true,x)) a e m
def D:aG:=Dof (P:=Tryz.prog) [aZ.ent,eY.nC,gB.nC]
abbrev lf0:=dJ (R:=Res) [1] (rounds (fun rq kn ke kr x y=>g0 rq kn ke kr x y) () ()) fu0
def tab:List (Nat×LE Res):= [(4,.typed (fC 31 sh0 bx0 bD bB bE (lf0)))]
theorem dn:Nonempty (Told E0 D tab Tryz.f61.ntmps (aJ (codeOf Tryz.f61) 0) 31 sh0 bx0 bD bB bE lf0):=fJ (sh:=sh0) (bx:=bx0) (ord:=bD) (shR:=bB) (bxR:=bE) dA (by kernel_rfl) (by kernel_rfl) (by kernel_rfl) [1] _ _ _ @g0 (fun _ _ _ _ _=>by kernel_rfl) (by
  intro _ _ _ _ _ _ _ h i k x y
  simp only [g0]
  with_reducible repeat (first|(apply J.lt; intro _)|apply J.rq|apply J.bif|exact h _ _|exact i _ (by decide) _ _|exact k (by decide) _ _))
theorem dw:fQ E0 D tab Tryz.f61.ntmps (codeOf Tryz.f61):=cZ (bs:= [aJ (codeOf Tryz.f61) 0]) (by kernel_rfl) (aI (bY (by kernel_rfl) (dn)) aW)
abbrev aS:List AS:= [.one (.val (.int .i64)),.one (.val (.arr 4 (.int .u64))),.one (.val (.int .i64))]
abbrev bS:List Ty:= []
def ent:Ent Tryz.prog:=bH (D:=D) (tab:=tab) hE0 (ay _) [true] Tryz.func61 (by kernel_rfl) dw aS bS res (fun x y=>r x.1 x.2.1 x.2.2.1) (fun x y=>g (fun c z=>req c z) (fun x=>some (res x)) x.1 x.2.1 x.2.2.1) (fun _ _=>by kernel_rfl) (by
 intro x y
 show J _ (g chk (fun x=>(true,x)) x.1 x.2.1 x.2.2.1) (g (fun c z=>req c z) (fun x=>some (res x)) x.1 x.2.1 x.2.2.1)
 unfold g
 with_reducible repeat (first|(apply J.lt; intro _)|apply J.rq|apply J.bif|exact J.rt rfl))
end di
namespace gy
abbrev X:Type:=Int
def res (x:Int):Res:=⟨[.val ⟨.int .i64,x⟩],[],[]⟩
def brn (w:Bool×X):Brn Res:= .one w.1 (res w.2)
theorem bM (w:Bool×X):(brn w).res=(w.1,res w.2):=rfl
def g {Z:Type} (rq:Bool→Z→Z) (rt:X→Z) (s:dh) (a:Int) (e:(List Int)):Z:=
lt (di.r a e s.1) fun w1792=>
rq w1792.1<|
rt w1792.2
def r (s:dh) (a:Int) (e:(List Int)):Bool×X:=g chk (fun x=>(true,x)) s a e
def D:aG:=Dof (P:=Tryz.prog) [di.ent]
def tab:List (Nat×LE Res):= []
theorem run (s:dh) (a:Int) (e:(List Int)):gm E0 [true] D (ic E0 D tab 9) Tryz.f32 (codeOf Tryz.f32) [.val ⟨iy,s⟩,.val ⟨.int .i64,a⟩,.val ⟨.arr 4 (.int .u64),e⟩] []=g (fun c z=>req c z) (fun x=>some (res x)) s a e:=by kernel_rfl
theorem rel (s:dh) (a:Int) (e:(List Int)):J (fun w z=>z=some (res w)) (g chk (fun x=>(true,x)) s a e) (g (fun c z=>req c z) (fun x=>some (res x)) s a e):=by
 unfold g
 with_reducible repeat (first|(apply J.lt; intro _)|apply J.rq|apply J.bif|exact J.rt rfl)
theorem ok:mU Tryz.f32=true:=by kernel_rfl
abbrev aS:List AS:= [.one (.val iy),.one (.val (.int .i64)),.one (.val (.arr 4 (.int .u64)))]
abbrev bS:List Ty:= []
def F (x:ASs aS) (y:Bs bS):Brn Res:=brn (r x.1 x.2.1 x.2.2.1)
theorem good (x:ASs aS) (y:Bs bS) (h:(F x y).res.1=true):Good Tryz.prog 32 (ASs.mk aS x) (Bs.mk bS y) (F x y).res.2:=
 fu hE0 (ay _) Tryz.func32 ok aD bM (run x.1 x.2.1 x.2.2.1) (rel x.1 x.2.1 x.2.2.1) h
def ent:Ent Tryz.prog:=⟨32,shF aS bS F,bC good⟩
def ro:dh→Int→(List Int)→Bool×X:=Classical.choose (⟨r,rfl⟩:∃ q:dh→Int→(List Int)→Bool×X,q=r)
theorem fK:ro=r:=Classical.choose_spec (⟨r,rfl⟩:∃ q:dh→Int→(List Int)→Bool×X,q=r)
def FO (x:ASs aS) (y:Bs bS):Brn Res:=brn (ro x.1 x.2.1 x.2.2.1)
theorem jv:FO=F:=by unfold FO F; rw [fK]
def nC:Ent Tryz.prog:=⟨32,shF aS bS FO,bC (by rw [jv]; exact good)⟩
end gy
namespace dX
abbrev X:Type:=Bool
def res (x:Bool):Res:=⟨[.val ⟨.bool,x⟩],[],[]⟩
def brn (w:Bool×X):Brn Res:= .one w.1 (res w.2)
theorem bM (w:Bool×X):(brn w).res=(w.1,res w.2):=rfl
def g {Z:Type} (rq:Bool→Z→Z) (rt:X→Z):Z:=
lt (dH.ro 0) fun w1173=>
rq w1173.1<|
lt (aV.ro 5) fun w1208=>
rq w1208.1<|
lt (aV.ro 2) fun w1209=>
rq w1209.1<|
lt (eG.ro w1173.2.1 [w1208.2,w1209.2] 2) fun w1299=>
rq w1299.1<|
lt (!w1173.2.2.2) fun (v1300:Bool)=>
bif v1300 then
rt false
else
lt (w1299.2.2 != 0) fun (v1301:Bool)=>
bif v1301 then
rt false
else
lt (w1299.2.1.length:Int) fun (v1302:Int)=>
lt (v1302 != 2) fun (v1303:Bool)=>
bif v1303 then
rt false
else
lt (w1299.2.1.getD 0 [0,0,0,0]) fun (v1304:(List Int))=>
rq (ilt (0:Int) (w1299.2.1.length:Int))<|
lt (aV.ro 11) fun w1305=>
rq w1305.1<|
lt (bJ.ro w1173.2.1 v1304 [(3,(w1305.2,()))]) fun w1694=>
rq w1694.1<|
lt (aV.ro 11) fun w1695=>
rq w1695.1<|
lt (dY.ro w1173.2.1 w1299.2.1 (3,(w1695.2,()))) fun w1747=>
rq w1747.1<|
bif w1747.2 then
lt (aV.ro 12) fun w1748=>
rq w1748.1<|
lt (dY.ro w1173.2.1 w1299.2.1 (3,(w1748.2,()))) fun w1749=>
rq w1749.1<|
lt (!w1749.2) fun (v1750:Bool)=>
bif v1750 then
lt (bQ.ro w1694.2.1 w1299.2.1) fun w1763=>
rq w1763.1<|
bif w1763.2 then
lt (w1694.2.2== 0) fun (v1764:Bool)=>
bif v1764 then
lt (cu.ro w1173.2.1 w1299.2.1 0) fun w1765=>
rq w1765.1<|
lt (aV.ro 5) fun w1766=>
rq w1766.1<|
lt (gy.ro w1173.2.2.1 w1173.2.2.1.2.2.1 w1766.2) fun w1793=>
rq w1793.1<|
lt (aV.ro w1793.2) fun w1794=>
rq w1794.1<|
lt (ieq (w1765.2.getD 0 0) (w1794.2.getD 0 0)&&(ieq (w1765.2.getD 1 0) (w1794.2.getD 1 0)&&(ieq (w1765.2.getD 2 0) (w1794.2.getD 2 0)&&(ieq (w1765.2.getD 3 0) (w1794.2.getD 3 0)&&true)))) fun v1795=>
bif v1795 then
lt (eP.ro w1173.2.1 w1299.2.1) fun w1796=>
rq w1796.1<|
rt w1796.2
else
rt false
else
rt false
else
rt false
else
rt false
else
rt false
def r:Bool×X:=g chk (fun x=>(true,x))
def D:aG:=Dof (P:=Tryz.prog) [dH.nC,aV.nC,eG.nC,bJ.nC,dY.nC,bQ.nC,cu.nC,gy.nC,eP.nC]
def tab:List (Nat×LE Res):= []
theorem run:gm E0 [true] D (ic E0 D tab 9) Tryz.f9 (codeOf Tryz.f9) [] []=g (fun c z=>req c z) (fun x=>some (res x)):=by kernel_rfl
theorem rel:J (fun w z=>z=some (res w)) (g chk (fun x=>(true,x))) (g (fun c z=>req c z) (fun x=>some (res x))):=by
 unfold g
 with_reducible repeat (first|(apply J.lt; intro _)|apply J.rq|apply J.bif|exact J.rt rfl)
theorem ok:mU Tryz.f9=true:=by kernel_rfl
abbrev aS:List AS:= []
abbrev bS:List Ty:= []
def F (_:ASs aS) (_:Bs bS):Brn Res:=brn r
theorem good (x:ASs aS) (y:Bs bS) (h:(F x y).res.1=true):Good Tryz.prog 9 (ASs.mk aS x) (Bs.mk bS y) (F x y).res.2:=
 fu hE0 (ay _) Tryz.func9 ok aD bM (run) (rel) h
def ent:Ent Tryz.prog:=⟨9,shF aS bS F,bC good⟩
def ro:Bool×X:=Classical.choose (⟨r,rfl⟩:∃ q:Bool×X,q=r)
theorem fK:ro=r:=Classical.choose_spec (⟨r,rfl⟩:∃ q:Bool×X,q=r)
def FO (_:ASs aS) (_:Bs bS):Brn Res:=brn ro
theorem jv:FO=F:=by unfold FO F; rw [fK]
def nC:Ent Tryz.prog:=⟨9,shF aS bS FO,bC (by rw [jv]; exact good)⟩
end dX
namespace aR
abbrev X:Type:=Bool
def res (x:Bool):Res:=⟨[.val ⟨.bool,x⟩],[],[]⟩
def brn (w:Bool×X):Brn Res:= .one w.1 (res w.2)
theorem bM (w:Bool×X):(brn w).res=(w.1,res w.2):=rfl
def g {Z:Type} (rq:Bool→Z→Z) (rt:X→Z) (c:(List (List Int))):Z:=
lt (c.length:Int) fun (v1:Int)=>
lt (ilt 8 v1) fun v2=>
bif v2 then
lt dX.ro fun w1797=>
rq w1797.1<|
rt w1797.2
else
lt (eG.r none c 3) fun w1824=>
rq w1824.1<|
lt (aV.r 1) fun w1825=>
rq w1825.1<|
lt (bJ.r none w1825.2 []) fun w1826=>
rq w1826.1<|
lt (w1824.2.1.length:Int) fun (v1827:Int)=>
lt (ilt 0 v1827) fun v1828=>
bif v1828 then
rt false
else
lt (w1824.2.2 != 1) fun (v1829:Bool)=>
bif v1829 then
rt false
else
lt (w1826.2.1.length:Int) fun (v1830:Int)=>
lt (ilt 0 v1830) fun v1831=>
bif v1831 then
rt false
else
lt (w1826.2.2 != 1) fun (v1832:Bool)=>
bif v1832 then
rt false
else
lt (eP.r none c) fun w1833=>
rq w1833.1<|
bif w1833.2 then
rt false
else
lt (cu.r none c 1) fun w1834=>
rq w1834.1<|
lt (!(ieq (w1834.2.getD 0 0) 0&&(ieq (w1834.2.getD 1 0) 0&&(ieq (w1834.2.getD 2 0) 0&&(ieq (w1834.2.getD 3 0) 0&&true))))) fun (v1835:Bool)=>
bif v1835 then
rt false
else
lt (dY.r none c (1,([0,0,0,0],()))) fun w1836=>
rq w1836.1<|
bif w1836.2 then
rt false
else
lt (eG.r (some ((none,(none,())),([0,0,0,0],()))) c 3) fun w1837=>
rq w1837.1<|
lt (aV.r 1) fun w1838=>
rq w1838.1<|
lt (bJ.r (some ((none,(none,())),([0,0,0,0],()))) w1838.2 []) fun w1839=>
rq w1839.1<|
lt (w1837.2.1.length:Int) fun (v1840:Int)=>
lt (ilt 0 v1840) fun v1841=>
bif v1841 then
rt false
else
lt (w1837.2.2 != 1) fun (v1842:Bool)=>
bif v1842 then
rt false
else
lt (w1839.2.1.length:Int) fun (v1843:Int)=>
lt (ilt 0 v1843) fun v1844=>
bif v1844 then
rt false
else
lt (w1839.2.2 != 1) fun (v1845:Bool)=>
bif v1845 then
rt false
else
lt (eP.r (some ((none,(none,())),([0,0,0,0],()))) c) fun w1846=>
rq w1846.1<|
bif w1846.2 then
rt false
else
lt (cu.r (some ((none,(none,())),([0,0,0,0],()))) c 1) fun w1847=>
rq w1847.1<|
lt (!(ieq (w1847.2.getD 0 0) 0&&(ieq (w1847.2.getD 1 0) 0&&(ieq (w1847.2.getD 2 0) 0&&(ieq (w1847.2.getD 3 0) 0&&true))))) fun (v1848:Bool)=>
bif v1848 then
rt false
else
lt (dY.r (some ((none,(none,())),([0,0,0,0],()))) c (1,([0,0,0,0],()))) fun w1849=>
rq w1849.1<|
bif w1849.2 then
rt false
else
lt dX.ro fun w1850=>
rq w1850.1<|
rt w1850.2
def r (c:(List (List Int))):Bool×X:=g chk (fun x=>(true,x)) c
def D:aG:=Dof (P:=Tryz.prog) [dX.nC,eG.ent,aV.ent,bJ.ent,eP.ent,cu.ent,dY.ent]
def tab:List (Nat×LE Res):= []
theorem run (c:(List (List Int))):gm E0 [true] D (ic E0 D tab 9) Tryz.f6 (codeOf Tryz.f6) [.val ⟨.sl (.arr 4 (.int .u64)),c⟩] []=g (fun c z=>req c z) (fun x=>some (res x)) c:=by kernel_rfl
theorem rel (c:(List (List Int))):J (fun w z=>z=some (res w)) (g chk (fun x=>(true,x)) c) (g (fun c z=>req c z) (fun x=>some (res x)) c):=by
 unfold g
 with_reducible repeat (first|(apply J.lt; intro _)|apply J.rq|apply J.bif|exact J.rt rfl)
theorem ok:mU Tryz.f6=true:=by kernel_rfl
abbrev aS:List AS:= [.one (.val (.sl (.arr 4 (.int .u64))))]
abbrev bS:List Ty:= []
def F (x:ASs aS) (y:Bs bS):Brn Res:=brn (r x.1)
theorem good (x:ASs aS) (y:Bs bS) (h:(F x y).res.1=true):Good Tryz.prog 6 (ASs.mk aS x) (Bs.mk bS y) (F x y).res.2:=
 fu hE0 (ay _) Tryz.func6 ok aD bM (run x.1) (rel x.1) h
def ent:Ent Tryz.prog:=⟨6,shF aS bS F,bC good⟩
end aR
end Go.Own
