/- What functions compute, printed by wip/gen/gen2.py. -/
import Derived.Test.YtnighkkdmgmcnaaGreatG7
set_option linter.unusedVariables false
set_option linter.unusedSimpArgs false
set_option maxRecDepth 100000
noncomputable section
namespace Go.Own
open Go.Proofs Go.Proofs.YtnighkkdmgmcnaaGreat
namespace bD
abbrev X:Type:=Bool
def res (x:Bool):Res:=⟨[.val ⟨.bool,x⟩],[],[]⟩
def brn (w:Bool×X):Brn Res:= .one w.1 (res w.2)
theorem cZ (w:Bool×X):(brn w).res=(w.1,res w.2):=rfl
abbrev sh0:List (Nat×Sh):= [(0,.p (.sl (.arr 4 (.int .u64)))),(1,.p (.sl (.arr 4 (.int .u64)))),(4,.p .bool),(5,.p (.int .i64))]
abbrev bx0:List (Nat×Ty):= []
abbrev aZ:List (Nat×Ty):= []
abbrev aY:List (Nat×Sh):= [(4,.p .bool)]
abbrev bf:List (Nat×Ty):= []
abbrev bW:List (Nat×Ty):= []
abbrev X0:Type:=(List (List Int))×(List (List Int))×Bool×Int×Unit
abbrev Y0:Type:=Unit
abbrev U0:Type:=Bool×Unit
abbrev V0:Type:=Unit
def g0 {Z:Type} (rq:Bool→Z→Z) (kn:X0→Y0→Z) (ke:Nat→X0→Y0→Z) (kr:U0→V0→Z) (x:X0) (y:Y0):Z:=
lt (x.1.length:Int) fun (v1756:Int)=>
lt (ilt x.2.2.2.1 v1756) fun v1757=>
bif v1757 then
lt (x.1.getD x.2.2.2.1.toNat [0,0,0,0]) fun (v1758:(List Int))=>
rq (ile (0:Int) x.2.2.2.1&&ilt x.2.2.2.1 (x.1.length:Int))<|
lt (x.2.1.getD x.2.2.2.1.toNat [0,0,0,0]) fun (v1759:(List Int))=>
rq (ile (0:Int) x.2.2.2.1&&ilt x.2.2.2.1 (x.2.1.length:Int))<|
lt (!(ieq (v1758.getD 0 0) (v1759.getD 0 0)&&(ieq (v1758.getD 1 0) (v1759.getD 1 0)&&(ieq (v1758.getD 2 0) (v1759.getD 2 0)&&(ieq (v1758.getD 3 0) (v1759.getD 3 0)&&true))))) fun (v1760:Bool)=>
bif v1760 then
kr (false,()) ()
else
lt (IntKind.i64.wrap (x.2.2.2.1+1)) fun v1761=>
kn (x.1,x.2.1,x.2.2.1,v1761,()) ()
else
ke 0 (x.1,x.2.1,x.2.2.1,x.2.2.2.1,()) ()
def fu0 (x:X0) (y:Y0):Nat:=((x.1.length:Int) - x.2.2.2.1).toNat+1
def l0 (x:X0) (y:Y0):Bool×Nat×X0×Y0×U0×V0:=rounds (fun rq kn ke kr x y=>g0 rq kn ke kr x y) (false,()) () (fu0 x y) x y
def g {Z:Type} (rq:Bool→Z→Z) (rt:X→Z) (a:(List (List Int))) (b:(List (List Int))):Z:=
lt (a.length:Int) fun (v1751:Int)=>
lt (b.length:Int) fun (v1752:Int)=>
lt (v1751 != v1752) fun (v1753:Bool)=>
bif v1753 then
rt false
else
lt (bD.l0 (a,b,false,0,()) ()) fun w1762=>
rq w1762.1<|
bif Nat.beq w1762.2.1 0 then
rt w1762.2.2.2.2.1.1
else
rt true
def r (a:(List (List Int))) (b:(List (List Int))):Bool×X:=g chk (fun x=>(true,x)) a b
def D:aH:=Dof (P:=Tryz.prog) []
abbrev lf0:=dh (R:=Res) [0,1] (rounds (fun rq kn ke kr x y=>g0 rq kn ke kr x y) (false,()) ()) fu0
def tab:List (Nat×LE Res):= [(5,.typed (eG 26 sh0 bx0 aZ aY bf (lf0)))]
theorem run (a:(List (List Int))) (b:(List (List Int))):gQ E0 [true] D (iI E0 D tab 9) Tryz.f19 (codeOf Tryz.f19) [.val ⟨.sl (.arr 4 (.int .u64)),a⟩,.val ⟨.sl (.arr 4 (.int .u64)),b⟩] []=g (fun c z=>req c z) (fun x=>some (res x)) a b:=by kernel_rfl
theorem rel (a:(List (List Int))) (b:(List (List Int))):J (fun w z=>z=some (res w)) (g chk (fun x=>(true,x)) a b) (g (fun c z=>req c z) (fun x=>some (res x)) a b):=by
 unfold g
 with_reducible repeat (first|(apply J.lt; intro _)|apply J.rq|apply J.bif|exact J.rt rfl)
theorem bT:Nonempty (Told E0 D tab Tryz.f19.ntmps (aF (codeOf Tryz.f19) 0) 26 sh0 bx0 aZ aY bf lf0):=fE (sh:=sh0) (bx:=bx0) (ord:=aZ) (shR:=aY) (bxR:=bf) bW (by kernel_rfl) (by kernel_rfl) (by kernel_rfl) [0,1] _ _ _ @g0 (fun _ _ _ _ _=>by kernel_rfl) (by
  intro _ _ _ _ _ _ _ h i k x y
  simp only [g0]
  with_reducible repeat (first|(apply J.lt; intro _)|apply J.rq|apply J.bif|exact h _ _|exact i _ (by decide) _ _|exact k (by decide) _ _))
theorem bU:fI E0 D tab Tryz.f19.ntmps (codeOf Tryz.f19):=bP (bs:= [aF (codeOf Tryz.f19) 0]) (by kernel_rfl) (aD (bO (by kernel_rfl) (bT)) aO)
theorem ok:nA Tryz.f19=true:=by kernel_rfl
abbrev aS:List AS:= [.one (.val (.sl (.arr 4 (.int .u64)))),.one (.val (.sl (.arr 4 (.int .u64))))]
abbrev bS:List Ty:= []
def F (x:ASs aS) (y:Bs bS):Brn Res:=brn (r x.1 x.2.1)
theorem good (x:ASs aS) (y:Bs bS) (h:(F x y).res.1=true):Good Tryz.prog 19 (ASs.mk aS x) (Bs.mk bS y) (F x y).res.2:=
 fV hE0 (ay _) Tryz.func19 ok bU cZ (run x.1 x.2.1) (rel x.1 x.2.1) h
def ent:Ent Tryz.prog:=⟨19,shF aS bS F,bV good⟩
def ro:(List (List Int))→(List (List Int))→Bool×X:=Classical.choose (⟨r,rfl⟩:∃ q:(List (List Int))→(List (List Int))→Bool×X,q=r)
theorem gD:ro=r:=Classical.choose_spec (⟨r,rfl⟩:∃ q:(List (List Int))→(List (List Int))→Bool×X,q=r)
def FO (x:ASs aS) (y:Bs bS):Brn Res:=brn (ro x.1 x.2.1)
theorem jQ:FO=F:=by unfold FO F; rw [gD]
def nO:Ent Tryz.prog:=⟨19,shF aS bS FO,bV (by rw [jQ]; exact good)⟩
end bD
namespace dW
abbrev X:Type:=Int
def res (x:Int):Res:=⟨[.val ⟨.int .i64,x⟩],[],[]⟩
def brn (w:Bool×X):Brn Res:= .one w.1 (res w.2)
theorem cZ (w:Bool×X):(brn w).res=(w.1,res w.2):=rfl
def g {Z:Type} (rq:Bool→Z→Z) (rt:X→Z) (a:Int) (b:Int) (m:Int):Z:=
lt (a.tmod m) fun (v1772:Int)=>
rq (!ieq m 0)<|
lt (IntKind.u64.wrap (v1772)) fun v1773=>
lt (b.tmod m) fun (v1774:Int)=>
rq (!ieq m 0)<|
lt (IntKind.u64.wrap (v1774)) fun v1775=>
lt (iH.r v1773 v1775) fun w1776=>
rq w1776.1<|
lt (IntKind.u64.wrap (m)) fun v1777=>
lt (fC.r w1776.2.1 w1776.2.2 v1777) fun w1778=>
rq w1778.1<|
lt (IntKind.i64.wrap (w1778.2.2)) fun v1779=>
rt v1779
def r (a:Int) (b:Int) (m:Int):Bool×X:=g chk (fun x=>(true,x)) a b m
def D:aH:=Dof (P:=Tryz.prog) [iH.ent,fC.ent]
def tab:List (Nat×LE Res):= []
theorem run (a:Int) (b:Int) (m:Int):gQ E0 [true] D (iI E0 D tab 9) Tryz.f73 (codeOf Tryz.f73) [.val ⟨.int .i64,a⟩,.val ⟨.int .i64,b⟩,.val ⟨.int .i64,m⟩] []=g (fun c z=>req c z) (fun x=>some (res x)) a b m:=by kernel_rfl
theorem rel (a:Int) (b:Int) (m:Int):J (fun w z=>z=some (res w)) (g chk (fun x=>(true,x)) a b m) (g (fun c z=>req c z) (fun x=>some (res x)) a b m):=by
 unfold g
 with_reducible repeat (first|(apply J.lt; intro _)|apply J.rq|apply J.bif|exact J.rt rfl)
theorem ok:nA Tryz.f73=true:=by kernel_rfl
abbrev aS:List AS:= [.one (.val (.int .i64)),.one (.val (.int .i64)),.one (.val (.int .i64))]
abbrev bS:List Ty:= []
def F (x:ASs aS) (y:Bs bS):Brn Res:=brn (r x.1 x.2.1 x.2.2.1)
theorem good (x:ASs aS) (y:Bs bS) (h:(F x y).res.1=true):Good Tryz.prog 73 (ASs.mk aS x) (Bs.mk bS y) (F x y).res.2:=
 fV hE0 (ay _) Tryz.func73 ok aC cZ (run x.1 x.2.1 x.2.2.1) (rel x.1 x.2.1 x.2.2.1) h
def ent:Ent Tryz.prog:=⟨73,shF aS bS F,bV good⟩
def ro:Int→Int→Int→Bool×X:=Classical.choose (⟨r,rfl⟩:∃ q:Int→Int→Int→Bool×X,q=r)
theorem gD:ro=r:=Classical.choose_spec (⟨r,rfl⟩:∃ q:Int→Int→Int→Bool×X,q=r)
def FO (x:ASs aS) (y:Bs bS):Brn Res:=brn (ro x.1 x.2.1 x.2.2.1)
theorem jQ:FO=F:=by unfold FO F; rw [gD]
def nO:Ent Tryz.prog:=⟨73,shF aS bS FO,bV (by rw [jQ]; exact good)⟩
end dW
namespace gV
abbrev X:Type:=Int
def res (x:Int):Res:=⟨[.val ⟨.int .i64,x⟩],[],[]⟩
def brn (w:Bool×X):Brn Res:= .one w.1 (res w.2)
theorem cZ (w:Bool×X):(brn w).res=(w.1,res w.2):=rfl
def g {Z:Type} (rq:Bool→Z→Z) (rt:X→Z) (a:(List Int)) (kx:Int):Z:=
lt (di.r a) fun w1781=>
rq w1781.1<|
lt (List.replicate 256 false) fun (v1782:(List Bool))=>
lt (ile 0 kx) fun v1783=>
bif v1783 then
lt (ilt kx 256) fun v1784=>
bif v1784 then
rq (ile (0:Int) kx&&ilt kx 256)<|
lt (w1781.2.getD kx.toNat false) fun (v1785:Bool)=>
bif v1785 then
rt 1
else
rt 0
else
rt 0
else
rt 0
def r (a:(List Int)) (kx:Int):Bool×X:=g chk (fun x=>(true,x)) a kx
def D:aH:=Dof (P:=Tryz.prog) [di.ent]
def tab:List (Nat×LE Res):= []
theorem run (a:(List Int)) (kx:Int):gQ E0 [true] D (iI E0 D tab 9) Tryz.f94 (codeOf Tryz.f94) [.val ⟨.arr 4 (.int .u64),a⟩,.val ⟨.int .i64,kx⟩] []=g (fun c z=>req c z) (fun x=>some (res x)) a kx:=by kernel_rfl
theorem rel (a:(List Int)) (kx:Int):J (fun w z=>z=some (res w)) (g chk (fun x=>(true,x)) a kx) (g (fun c z=>req c z) (fun x=>some (res x)) a kx):=by
 unfold g
 with_reducible repeat (first|(apply J.lt; intro _)|apply J.rq|apply J.bif|exact J.rt rfl)
theorem ok:nA Tryz.f94=true:=by kernel_rfl
abbrev aS:List AS:= [.one (.val (.arr 4 (.int .u64))),.one (.val (.int .i64))]
abbrev bS:List Ty:= []
def F (x:ASs aS) (y:Bs bS):Brn Res:=brn (r x.1 x.2.1)
theorem good (x:ASs aS) (y:Bs bS) (h:(F x y).res.1=true):Good Tryz.prog 94 (ASs.mk aS x) (Bs.mk bS y) (F x y).res.2:=
 fV hE0 (ay _) Tryz.func94 ok aC cZ (run x.1 x.2.1) (rel x.1 x.2.1) h
def ent:Ent Tryz.prog:=⟨94,shF aS bS F,bV good⟩
def ro:(List Int)→Int→Bool×X:=Classical.choose (⟨r,rfl⟩:∃ q:(List Int)→Int→Bool×X,q=r)
theorem gD:ro=r:=Classical.choose_spec (⟨r,rfl⟩:∃ q:(List Int)→Int→Bool×X,q=r)
def FO (x:ASs aS) (y:Bs bS):Brn Res:=brn (ro x.1 x.2.1)
theorem jQ:FO=F:=by unfold FO F; rw [gD]
def nO:Ent Tryz.prog:=⟨94,shF aS bS FO,bV (by rw [jQ]; exact good)⟩
end gV
namespace dL
abbrev X:Type:=Int
def res (x:Int):Res:=⟨[.val ⟨.int .i64,x⟩],[],[]⟩
abbrev sh0:List (Nat×Sh):= [(0,.p (.int .i64)),(2,.p (.int .i64)),(4,.pb 500000 (.arr 4 (.int .u64)) []),(6,.p (.int .i64)),(7,.p (.int .i64)),(8,.p (.int .i64))]
abbrev bx0:List (Nat×Ty):= [(500000,.arr 4 (.int .u64))]
abbrev aZ:List (Nat×Ty):= [(500000,.arr 4 (.int .u64))]
abbrev aY:List (Nat×Sh):= []
abbrev bf:List (Nat×Ty):= []
abbrev bW:List (Nat×Ty):= []
abbrev X0:Type:=Int×Int×Unit×Int×Int×Int×Unit
abbrev Y0:Type:=(List Int)×Unit
abbrev U0:Type:=Unit
abbrev V0:Type:=Unit
def g0 {Z:Type} (rq:Bool→Z→Z) (kn:X0→Y0→Z) (ke:Nat→X0→Y0→Z) (kr:U0→V0→Z) (x:X0) (y:Y0):Z:=
lt (ile 0 x.2.2.2.2.2.1) fun v1771=>
bif v1771 then
lt (dW.ro x.2.2.2.2.1 x.2.2.2.2.1 x.2.1) fun w1780=>
rq w1780.1<|
lt (gV.ro y.1 x.2.2.2.2.2.1) fun w1786=>
rq w1786.1<|
lt (w1786.2== 1) fun (v1787:Bool)=>
bif v1787 then
lt (dW.ro w1780.2 x.1 x.2.1) fun w1788=>
rq w1788.1<|
lt (IntKind.i64.wrap (x.2.2.2.2.2.1 - 1)) fun v1789=>
kn (x.1,x.2.1,(),x.2.2.2.1,w1788.2,v1789,()) (y.1,())
else
lt (IntKind.i64.wrap (x.2.2.2.2.2.1 - 1)) fun v1790=>
kn (x.1,x.2.1,(),x.2.2.2.1,w1780.2,v1790,()) (y.1,())
else
ke 0 (x.1,x.2.1,(),x.2.2.2.1,x.2.2.2.2.1,x.2.2.2.2.2.1,()) (y.1,())
def fu0 (x:X0) (y:Y0):Nat:=(x.2.2.2.2.2.1 - (0:Int)+1).toNat+1
def l0 (x:X0) (y:Y0):Bool×Nat×X0×Y0×U0×V0:=rounds (fun rq kn ke kr x y=>g0 rq kn ke kr x y) () () (fu0 x y) x y
def g {Z:Type} (rq:Bool→Z→Z) (rt:X→Z) (a:Int) (e:(List Int)) (m:Int):Z:=
lt ((1:Int).tmod m) fun (v1767:Int)=>
rq (!ieq m 0)<|
lt (bF.r e) fun w1768=>
rq w1768.1<|
lt (IntKind.i64.wrap (w1768.2 - 1)) fun v1769=>
lt (dL.l0 (a,m,(),0,v1767,v1769,()) (e,())) fun w1791=>
rq w1791.1<|
rt w1791.2.2.1.2.2.2.2.1
def r (a:Int) (e:(List Int)) (m:Int):Bool×X:=g chk (fun x=>(true,x)) a e m
def D:aH:=Dof (P:=Tryz.prog) [bF.ent,dW.nO,gV.nO]
abbrev lf0:=dh (R:=Res) [1] (rounds (fun rq kn ke kr x y=>g0 rq kn ke kr x y) () ()) fu0
def tab:List (Nat×LE Res):= [(4,.typed (eG 31 sh0 bx0 aZ aY bf (lf0)))]
theorem bT:Nonempty (Told E0 D tab Tryz.f61.ntmps (aF (codeOf Tryz.f61) 0) 31 sh0 bx0 aZ aY bf lf0):=fE (sh:=sh0) (bx:=bx0) (ord:=aZ) (shR:=aY) (bxR:=bf) bW (by kernel_rfl) (by kernel_rfl) (by kernel_rfl) [1] _ _ _ @g0 (fun _ _ _ _ _=>by kernel_rfl) (by
  intro _ _ _ _ _ _ _ h i k x y
  simp only [g0]
  with_reducible repeat (first|(apply J.lt; intro _)|apply J.rq|apply J.bif|exact h _ _|exact i _ (by decide) _ _|exact k (by decide) _ _))
theorem bU:fI E0 D tab Tryz.f61.ntmps (codeOf Tryz.f61):=bP (bs:= [aF (codeOf Tryz.f61) 0]) (by kernel_rfl) (aD (bO (by kernel_rfl) (bT)) aO)
abbrev aS:List AS:= [.one (.val (.int .i64)),.one (.val (.arr 4 (.int .u64))),.one (.val (.int .i64))]
abbrev bS:List Ty:= []
def ent:Ent Tryz.prog:=bE (D:=D) (tab:=tab) hE0 (ay _) [true] Tryz.func61 (by kernel_rfl) bU aS bS res (fun x y=>r x.1 x.2.1 x.2.2.1) (fun x y=>g (fun c z=>req c z) (fun x=>some (res x)) x.1 x.2.1 x.2.2.1) (fun _ _=>by kernel_rfl) (by
 intro x y
 show J _ (g chk (fun x=>(true,x)) x.1 x.2.1 x.2.2.1) (g (fun c z=>req c z) (fun x=>some (res x)) x.1 x.2.1 x.2.2.1)
 unfold g
 with_reducible repeat (first|(apply J.lt; intro _)|apply J.rq|apply J.bif|exact J.rt rfl))
end dL
namespace bQ
abbrev X:Type:=Int
def res (x:Int):Res:=⟨[.val ⟨.int .i64,x⟩],[],[]⟩
def brn (w:Bool×X):Brn Res:= .one w.1 (res w.2)
theorem cZ (w:Bool×X):(brn w).res=(w.1,res w.2):=rfl
def g {Z:Type} (rq:Bool→Z→Z) (rt:X→Z) (s:aN) (a:Int) (e:(List Int)):Z:=
lt (dL.r a e s.1) fun w1792=>
rq w1792.1<|
rt w1792.2
def r (s:aN) (a:Int) (e:(List Int)):Bool×X:=g chk (fun x=>(true,x)) s a e
def D:aH:=Dof (P:=Tryz.prog) [dL.ent]
def tab:List (Nat×LE Res):= []
theorem run (s:aN) (a:Int) (e:(List Int)):gQ E0 [true] D (iI E0 D tab 9) Tryz.f32 (codeOf Tryz.f32) [.val ⟨aV,s⟩,.val ⟨.int .i64,a⟩,.val ⟨.arr 4 (.int .u64),e⟩] []=g (fun c z=>req c z) (fun x=>some (res x)) s a e:=by kernel_rfl
theorem rel (s:aN) (a:Int) (e:(List Int)):J (fun w z=>z=some (res w)) (g chk (fun x=>(true,x)) s a e) (g (fun c z=>req c z) (fun x=>some (res x)) s a e):=by
 unfold g
 with_reducible repeat (first|(apply J.lt; intro _)|apply J.rq|apply J.bif|exact J.rt rfl)
theorem ok:nA Tryz.f32=true:=by kernel_rfl
abbrev aS:List AS:= [.one (.val aV),.one (.val (.int .i64)),.one (.val (.arr 4 (.int .u64)))]
abbrev bS:List Ty:= []
def F (x:ASs aS) (y:Bs bS):Brn Res:=brn (r x.1 x.2.1 x.2.2.1)
theorem good (x:ASs aS) (y:Bs bS) (h:(F x y).res.1=true):Good Tryz.prog 32 (ASs.mk aS x) (Bs.mk bS y) (F x y).res.2:=
 fV hE0 (ay _) Tryz.func32 ok aC cZ (run x.1 x.2.1 x.2.2.1) (rel x.1 x.2.1 x.2.2.1) h
def ent:Ent Tryz.prog:=⟨32,shF aS bS F,bV good⟩
def ro:aN→Int→(List Int)→Bool×X:=Classical.choose (⟨r,rfl⟩:∃ q:aN→Int→(List Int)→Bool×X,q=r)
theorem gD:ro=r:=Classical.choose_spec (⟨r,rfl⟩:∃ q:aN→Int→(List Int)→Bool×X,q=r)
def FO (x:ASs aS) (y:Bs bS):Brn Res:=brn (ro x.1 x.2.1 x.2.2.1)
theorem jQ:FO=F:=by unfold FO F; rw [gD]
def nO:Ent Tryz.prog:=⟨32,shF aS bS FO,bV (by rw [jQ]; exact good)⟩
end bQ
namespace aJ
abbrev X:Type:=Bool
def res (x:Bool):Res:=⟨[.val ⟨.bool,x⟩],[],[]⟩
def brn (w:Bool×X):Brn Res:= .one w.1 (res w.2)
theorem cZ (w:Bool×X):(brn w).res=(w.1,res w.2):=rfl
def g {Z:Type} (rq:Bool→Z→Z) (rt:X→Z):Z:=
lt (cO.ro 0) fun w1173=>
rq w1173.1<|
lt (bN.ro 5) fun w1208=>
rq w1208.1<|
lt (bN.ro 2) fun w1209=>
rq w1209.1<|
lt (eB.ro w1173.2.1 [w1208.2,w1209.2] 2) fun w1299=>
rq w1299.1<|
lt (!w1173.2.2.2) fun (v1300:Bool)=>
bif v1300 then
rt false
else
lt (w1299.2.2 != 0) fun (v1301:Bool)=>
bif v1301 then
rt false
else
lt (w1299.2.1.length:Int) fun (v1302:Int)=>
lt (v1302 != 2) fun (v1303:Bool)=>
bif v1303 then
rt false
else
lt (w1299.2.1.getD 0 [0,0,0,0]) fun (v1304:(List Int))=>
rq (ilt (0:Int) (w1299.2.1.length:Int))<|
lt (bN.ro 11) fun w1305=>
rq w1305.1<|
lt (dO.ro w1173.2.1 v1304 [(3,(w1305.2,()))]) fun w1694=>
rq w1694.1<|
lt (bN.ro 11) fun w1695=>
rq w1695.1<|
lt (iN.ro w1173.2.1 w1299.2.1 (3,(w1695.2,()))) fun w1747=>
rq w1747.1<|
bif w1747.2 then
lt (bN.ro 12) fun w1748=>
rq w1748.1<|
lt (iN.ro w1173.2.1 w1299.2.1 (3,(w1748.2,()))) fun w1749=>
rq w1749.1<|
lt (!w1749.2) fun (v1750:Bool)=>
bif v1750 then
lt (bD.ro w1694.2.1 w1299.2.1) fun w1763=>
rq w1763.1<|
bif w1763.2 then
lt (w1694.2.2== 0) fun (v1764:Bool)=>
bif v1764 then
lt (eD.ro w1173.2.1 w1299.2.1 0) fun w1765=>
rq w1765.1<|
lt (bN.ro 5) fun w1766=>
rq w1766.1<|
lt (bQ.ro w1173.2.2.1 w1173.2.2.1.2.2.1 w1766.2) fun w1793=>
rq w1793.1<|
lt (bN.ro w1793.2) fun w1794=>
rq w1794.1<|
lt (ieq (w1765.2.getD 0 0) (w1794.2.getD 0 0)&&(ieq (w1765.2.getD 1 0) (w1794.2.getD 1 0)&&(ieq (w1765.2.getD 2 0) (w1794.2.getD 2 0)&&(ieq (w1765.2.getD 3 0) (w1794.2.getD 3 0)&&true)))) fun v1795=>
bif v1795 then
lt (fU.ro w1173.2.1 w1299.2.1) fun w1796=>
rq w1796.1<|
rt w1796.2
else
rt false
else
rt false
else
rt false
else
rt false
else
rt false
def r:Bool×X:=g chk (fun x=>(true,x))
def D:aH:=Dof (P:=Tryz.prog) [cO.nO,bN.nO,eB.nO,dO.nO,iN.nO,bD.nO,eD.nO,bQ.nO,fU.nO]
def tab:List (Nat×LE Res):= []
theorem run:gQ E0 [true] D (iI E0 D tab 9) Tryz.f9 (codeOf Tryz.f9) [] []=g (fun c z=>req c z) (fun x=>some (res x)):=by kernel_rfl
theorem rel:J (fun w z=>z=some (res w)) (g chk (fun x=>(true,x))) (g (fun c z=>req c z) (fun x=>some (res x))):=by
 unfold g
 with_reducible repeat (first|(apply J.lt; intro _)|apply J.rq|apply J.bif|exact J.rt rfl)
theorem ok:nA Tryz.f9=true:=by kernel_rfl
abbrev aS:List AS:= []
abbrev bS:List Ty:= []
def F (_:ASs aS) (_:Bs bS):Brn Res:=brn r
theorem good (x:ASs aS) (y:Bs bS) (h:(F x y).res.1=true):Good Tryz.prog 9 (ASs.mk aS x) (Bs.mk bS y) (F x y).res.2:=
 fV hE0 (ay _) Tryz.func9 ok aC cZ (run) (rel) h
def ent:Ent Tryz.prog:=⟨9,shF aS bS F,bV good⟩
def ro:Bool×X:=Classical.choose (⟨r,rfl⟩:∃ q:Bool×X,q=r)
theorem gD:ro=r:=Classical.choose_spec (⟨r,rfl⟩:∃ q:Bool×X,q=r)
def FO (_:ASs aS) (_:Bs bS):Brn Res:=brn ro
theorem jQ:FO=F:=by unfold FO F; rw [gD]
def nO:Ent Tryz.prog:=⟨9,shF aS bS FO,bV (by rw [jQ]; exact good)⟩
end aJ
namespace dQ
abbrev X:Type:=(List Int)
def res (x:(List Int)):Res:=⟨[.val ⟨.arr 32 (.int .i64),x⟩],[],[]⟩
abbrev sh0:List (Nat×Sh):= [(2,.pb 500000 (.arr 4 (.int .u64)) []),(3,.pb 500001 (.arr 4 (.int .u64)) []),(4,.pb 500002 (.arr 32 (.int .i64)) []),(5,.pb 500003 (.arr 32 (.int .i64)) []),(6,.p (.int .i64))]
abbrev bx0:List (Nat×Ty):= [(500000,.arr 4 (.int .u64)),(500001,.arr 4 (.int .u64)),(500002,.arr 32 (.int .i64)),(500003,.arr 32 (.int .i64))]
abbrev aZ:List (Nat×Ty):= [(500000,.arr 4 (.int .u64)),(500001,.arr 4 (.int .u64)),(500002,.arr 32 (.int .i64)),(500003,.arr 32 (.int .i64))]
abbrev aY:List (Nat×Sh):= []
abbrev bf:List (Nat×Ty):= []
abbrev bW:List (Nat×Ty):= []
abbrev X0:Type:=Unit×Unit×Unit×Unit×Int×Unit
abbrev Y0:Type:=(List Int)×(List Int)×(List Int)×(List Int)×Unit
abbrev U0:Type:=Unit
abbrev V0:Type:=Unit
def g0 {Z:Type} (rq:Bool→Z→Z) (kn:X0→Y0→Z) (ke:Nat→X0→Y0→Z) (kr:U0→V0→Z) (x:X0) (y:Y0):Z:=
lt (ilt x.2.2.2.2.1 16) fun v1899=>
bif v1899 then
lt (IntKind.i64.wrap (x.2.2.2.2.1.tdiv 4)) fun v1900=>
rq (ile (0:Int) v1900&&ilt v1900 4)<|
lt (y.1.getD v1900.toNat 0) fun (v1901:Int)=>
lt (x.2.2.2.2.1.tmod 4) fun (v1902:Int)=>
lt (IntKind.i64.wrap ((16:Int)*v1902)) fun v1903=>
lt (v1901.fdiv (2^(min v1903.toNat 64))) fun (v1904:Int)=>
rq (!ilt v1903 0)<|
lt (fq .u64 (· &&& ·) v1904 (65535:Int)) fun v1905=>
lt (IntKind.i64.wrap (v1905)) fun v1906=>
rq (ile (0:Int) x.2.2.2.2.1&&ilt x.2.2.2.2.1 32)<|
lt (y.2.2.2.1.set x.2.2.2.2.1.toNat v1906) fun (v1907:(List Int))=>
lt (IntKind.i64.wrap ((16:Int)+x.2.2.2.2.1)) fun v1908=>
lt (IntKind.i64.wrap (x.2.2.2.2.1.tdiv 4)) fun v1909=>
rq (ile (0:Int) v1909&&ilt v1909 4)<|
lt (y.2.1.getD v1909.toNat 0) fun (v1910:Int)=>
lt (x.2.2.2.2.1.tmod 4) fun (v1911:Int)=>
lt (IntKind.i64.wrap ((16:Int)*v1911)) fun v1912=>
lt (v1910.fdiv (2^(min v1912.toNat 64))) fun (v1913:Int)=>
rq (!ilt v1912 0)<|
lt (fq .u64 (· &&& ·) v1913 (65535:Int)) fun v1914=>
lt (IntKind.i64.wrap (v1914)) fun v1915=>
rq (ile (0:Int) v1908&&ilt v1908 32)<|
lt (v1907.set v1908.toNat v1915) fun (v1916:(List Int))=>
lt (IntKind.i64.wrap (x.2.2.2.2.1+1)) fun v1917=>
kn ((),(),(),(),v1917,()) (y.1,y.2.1,y.2.2.1,v1916,())
else
ke 0 ((),(),(),(),x.2.2.2.2.1,()) (y.1,y.2.1,y.2.2.1,y.2.2.2.1,())
def fu0 (x:X0) (y:Y0):Nat:=((16:Int) - x.2.2.2.2.1).toNat+1
def l0 (x:X0) (y:Y0):Bool×Nat×X0×Y0×U0×V0:=rounds (fun rq kn ke kr x y=>g0 rq kn ke kr x y) () () (fu0 x y) x y
def g {Z:Type} (rq:Bool→Z→Z) (rt:X→Z) (low:(List Int)) (high:(List Int)):Z:=
lt (List.replicate 32 0) fun (v1806:(List Int))=>
lt (List.replicate 32 0) fun (v1807:(List Int))=>
lt (List.replicate 32 0) fun (v1808:(List Int))=>
lt (dQ.l0 ((),(),(),(),0,()) (low,high,v1806,v1807,())) fun w1918=>
rq w1918.1<|
rt w1918.2.2.2.1.2.2.2.1
def r (low:(List Int)) (high:(List Int)):Bool×X:=g chk (fun x=>(true,x)) low high
def D:aH:=Dof (P:=Tryz.prog) []
abbrev lf0:=dh (R:=Res) [1] (rounds (fun rq kn ke kr x y=>g0 rq kn ke kr x y) () ()) fu0
def tab:List (Nat×LE Res):= [(4,.typed (eG 38 sh0 bx0 aZ aY bf (lf0)))]
theorem bT:Nonempty (Told E0 D tab Tryz.f96.ntmps (aF (codeOf Tryz.f96) 0) 38 sh0 bx0 aZ aY bf lf0):=fE (sh:=sh0) (bx:=bx0) (ord:=aZ) (shR:=aY) (bxR:=bf) bW (by kernel_rfl) (by kernel_rfl) (by kernel_rfl) [1] _ _ _ @g0 (fun _ _ _ _ _=>by kernel_rfl) (by
  intro _ _ _ _ _ _ _ h i k x y
  simp only [g0]
  with_reducible repeat (first|(apply J.lt; intro _)|apply J.rq|apply J.bif|exact h _ _|exact i _ (by decide) _ _|exact k (by decide) _ _))
theorem bU:fI E0 D tab Tryz.f96.ntmps (codeOf Tryz.f96):=bP (bs:= [aF (codeOf Tryz.f96) 0]) (by kernel_rfl) (aD (bO (by kernel_rfl) (bT)) aO)
abbrev aS:List AS:= [.one (.val (.arr 4 (.int .u64))),.one (.val (.arr 4 (.int .u64)))]
abbrev bS:List Ty:= []
def ent:Ent Tryz.prog:=bE (D:=D) (tab:=tab) hE0 (ay _) [true] Tryz.func96 (by kernel_rfl) bU aS bS res (fun x y=>r x.1 x.2.1) (fun x y=>g (fun c z=>req c z) (fun x=>some (res x)) x.1 x.2.1) (fun _ _=>by kernel_rfl) (by
 intro x y
 show J _ (g chk (fun x=>(true,x)) x.1 x.2.1) (g (fun c z=>req c z) (fun x=>some (res x)) x.1 x.2.1)
 unfold g
 with_reducible repeat (first|(apply J.lt; intro _)|apply J.rq|apply J.bif|exact J.rt rfl))
end dQ
namespace dn
abbrev X:Type:=(List Int)
def res (x:(List Int)):Res:=⟨[.val ⟨.arr 32 (.int .i64),x⟩],[],[]⟩
abbrev sh0:List (Nat×Sh):= [(2,.pb 500000 (.arr 32 (.int .i64)) []),(4,.pb 500001 (.arr 32 (.int .i64)) []),(5,.pb 500002 (.arr 32 (.int .i64)) []),(6,.p (.int .i64)),(7,.p (.int .i64))]
abbrev bx0:List (Nat×Ty):= [(500000,.arr 32 (.int .i64)),(500001,.arr 32 (.int .i64)),(500002,.arr 32 (.int .i64))]
abbrev aZ:List (Nat×Ty):= [(500000,.arr 32 (.int .i64)),(500001,.arr 32 (.int .i64)),(500002,.arr 32 (.int .i64))]
abbrev aY:List (Nat×Sh):= []
abbrev bf:List (Nat×Ty):= []
abbrev bW:List (Nat×Ty):= []
abbrev X0:Type:=Unit×Unit×Unit×Int×Int×Unit
abbrev Y0:Type:=(List Int)×(List Int)×(List Int)×Unit
abbrev U0:Type:=Unit
abbrev V0:Type:=Unit
def g0 {Z:Type} (rq:Bool→Z→Z) (kn:X0→Y0→Z) (ke:Nat→X0→Y0→Z) (kr:U0→V0→Z) (x:X0) (y:Y0):Z:=
lt (ilt x.2.2.2.2.1 32) fun v1987=>
bif v1987 then
rq (ile (0:Int) x.2.2.2.2.1&&ilt x.2.2.2.2.1 32)<|
lt (y.1.getD x.2.2.2.2.1.toNat 0) fun (v1988:Int)=>
lt (IntKind.i64.wrap ((2:Int)*v1988)) fun v1989=>
lt (IntKind.i64.wrap (v1989+x.2.2.2.1)) fun v1990=>
lt (fq .i64 (· &&& ·) v1990 (65535:Int)) fun v1991=>
rq (ile (0:Int) x.2.2.2.2.1&&ilt x.2.2.2.2.1 32)<|
lt (y.2.2.1.set x.2.2.2.2.1.toNat v1991) fun (v1992:(List Int))=>
lt (v1990.fdiv (2^16)) fun (v1993:Int)=>
lt (IntKind.i64.wrap (x.2.2.2.2.1+1)) fun v1994=>
kn ((),(),(),v1993,v1994,()) (y.1,y.2.1,v1992,())
else
ke 0 ((),(),(),x.2.2.2.1,x.2.2.2.2.1,()) (y.1,y.2.1,y.2.2.1,())
def fu0 (x:X0) (y:Y0):Nat:=((32:Int) - x.2.2.2.2.1).toNat+1
def l0 (x:X0) (y:Y0):Bool×Nat×X0×Y0×U0×V0:=rounds (fun rq kn ke kr x y=>g0 rq kn ke kr x y) () () (fu0 x y) x y
def g {Z:Type} (rq:Bool→Z→Z) (rt:X→Z) (a:(List Int)) (one:Int):Z:=
lt (List.replicate 32 0) fun (v1930:(List Int))=>
lt (List.replicate 32 0) fun (v1931:(List Int))=>
lt (List.replicate 32 0) fun (v1932:(List Int))=>
lt (dn.l0 ((),(),(),one,0,()) (a,v1930,v1931,())) fun w1995=>
rq w1995.1<|
rt w1995.2.2.2.1.2.2.1
def r (a:(List Int)) (one:Int):Bool×X:=g chk (fun x=>(true,x)) a one
def D:aH:=Dof (P:=Tryz.prog) []
abbrev lf0:=dh (R:=Res) [1] (rounds (fun rq kn ke kr x y=>g0 rq kn ke kr x y) () ()) fu0
def tab:List (Nat×LE Res):= [(5,.typed (eG 28 sh0 bx0 aZ aY bf (lf0)))]
theorem bT:Nonempty (Told E0 D tab Tryz.f127.ntmps (aF (codeOf Tryz.f127) 0) 28 sh0 bx0 aZ aY bf lf0):=fE (sh:=sh0) (bx:=bx0) (ord:=aZ) (shR:=aY) (bxR:=bf) bW (by kernel_rfl) (by kernel_rfl) (by kernel_rfl) [1] _ _ _ @g0 (fun _ _ _ _ _=>by kernel_rfl) (by
  intro _ _ _ _ _ _ _ h i k x y
  simp only [g0]
  with_reducible repeat (first|(apply J.lt; intro _)|apply J.rq|apply J.bif|exact h _ _|exact i _ (by decide) _ _|exact k (by decide) _ _))
theorem bU:fI E0 D tab Tryz.f127.ntmps (codeOf Tryz.f127):=bP (bs:= [aF (codeOf Tryz.f127) 0]) (by kernel_rfl) (aD (bO (by kernel_rfl) (bT)) aO)
abbrev aS:List AS:= [.one (.val (.arr 32 (.int .i64))),.one (.val (.int .i64))]
abbrev bS:List Ty:= []
def ent:Ent Tryz.prog:=bE (D:=D) (tab:=tab) hE0 (ay _) [true] Tryz.func127 (by kernel_rfl) bU aS bS res (fun x y=>r x.1 x.2.1) (fun x y=>g (fun c z=>req c z) (fun x=>some (res x)) x.1 x.2.1) (fun _ _=>by kernel_rfl) (by
 intro x y
 show J _ (g chk (fun x=>(true,x)) x.1 x.2.1) (g (fun c z=>req c z) (fun x=>some (res x)) x.1 x.2.1)
 unfold g
 with_reducible repeat (first|(apply J.lt; intro _)|apply J.rq|apply J.bif|exact J.rt rfl))
end dn
namespace dM
abbrev X:Type:=Bool
def res (x:Bool):Res:=⟨[.val ⟨.bool,x⟩],[],[]⟩
abbrev sh0:List (Nat×Sh):= [(2,.pb 500000 (.arr 32 (.int .i64)) []),(3,.pb 500001 (.arr 32 (.int .i64)) []),(4,.p .bool),(5,.p (.int .i64))]
abbrev bx0:List (Nat×Ty):= [(500000,.arr 32 (.int .i64)),(500001,.arr 32 (.int .i64))]
abbrev aZ:List (Nat×Ty):= [(500000,.arr 32 (.int .i64)),(500001,.arr 32 (.int .i64))]
abbrev aY:List (Nat×Sh):= [(4,.p .bool)]
abbrev bf:List (Nat×Ty):= []
abbrev bW:List (Nat×Ty):= []
abbrev X0:Type:=Unit×Unit×Bool×Int×Unit
abbrev Y0:Type:=(List Int)×(List Int)×Unit
abbrev U0:Type:=Bool×Unit
abbrev V0:Type:=Unit
def g0 {Z:Type} (rq:Bool→Z→Z) (kn:X0→Y0→Z) (ke:Nat→X0→Y0→Z) (kr:U0→V0→Z) (x:X0) (y:Y0):Z:=
lt (ile 0 x.2.2.2.1) fun v2051=>
bif v2051 then
rq (ile (0:Int) x.2.2.2.1&&ilt x.2.2.2.1 32)<|
lt (y.1.getD x.2.2.2.1.toNat 0) fun (v2052:Int)=>
rq (ile (0:Int) x.2.2.2.1&&ilt x.2.2.2.1 32)<|
lt (y.2.1.getD x.2.2.2.1.toNat 0) fun (v2053:Int)=>
lt (v2052 != v2053) fun (v2054:Bool)=>
bif v2054 then
rq (ile (0:Int) x.2.2.2.1&&ilt x.2.2.2.1 32)<|
lt (y.1.getD x.2.2.2.1.toNat 0) fun (v2055:Int)=>
rq (ile (0:Int) x.2.2.2.1&&ilt x.2.2.2.1 32)<|
lt (y.2.1.getD x.2.2.2.1.toNat 0) fun (v2056:Int)=>
lt (ilt v2055 v2056) fun v2057=>
kr (v2057,()) ()
else
lt (IntKind.i64.wrap (x.2.2.2.1 - 1)) fun v2058=>
kn ((),(),x.2.2.1,v2058,()) (y.1,y.2.1,())
else
ke 0 ((),(),x.2.2.1,x.2.2.2.1,()) (y.1,y.2.1,())
def fu0 (x:X0) (y:Y0):Nat:=(x.2.2.2.1 - (0:Int)+1).toNat+1
def l0 (x:X0) (y:Y0):Bool×Nat×X0×Y0×U0×V0:=rounds (fun rq kn ke kr x y=>g0 rq kn ke kr x y) (false,()) () (fu0 x y) x y
def g {Z:Type} (rq:Bool→Z→Z) (rt:X→Z) (a:(List Int)) (b:(List Int)):Z:=
lt (dM.l0 ((),(),false,31,()) (a,b,())) fun w2059=>
rq w2059.1<|
bif Nat.beq w2059.2.1 0 then
rt w2059.2.2.2.2.1.1
else
rt false
def r (a:(List Int)) (b:(List Int)):Bool×X:=g chk (fun x=>(true,x)) a b
def D:aH:=Dof (P:=Tryz.prog) []
abbrev lf0:=dh (R:=Res) [0,1] (rounds (fun rq kn ke kr x y=>g0 rq kn ke kr x y) (false,()) ()) fu0
def tab:List (Nat×LE Res):= [(3,.typed (eG 24 sh0 bx0 aZ aY bf (lf0)))]
theorem bT:Nonempty (Told E0 D tab Tryz.f128.ntmps (aF (codeOf Tryz.f128) 0) 24 sh0 bx0 aZ aY bf lf0):=fE (sh:=sh0) (bx:=bx0) (ord:=aZ) (shR:=aY) (bxR:=bf) bW (by kernel_rfl) (by kernel_rfl) (by kernel_rfl) [0,1] _ _ _ @g0 (fun _ _ _ _ _=>by kernel_rfl) (by
  intro _ _ _ _ _ _ _ h i k x y
  simp only [g0]
  with_reducible repeat (first|(apply J.lt; intro _)|apply J.rq|apply J.bif|exact h _ _|exact i _ (by decide) _ _|exact k (by decide) _ _))
theorem bU:fI E0 D tab Tryz.f128.ntmps (codeOf Tryz.f128):=bP (bs:= [aF (codeOf Tryz.f128) 0]) (by kernel_rfl) (aD (bO (by kernel_rfl) (bT)) aO)
abbrev aS:List AS:= [.one (.val (.arr 32 (.int .i64))),.one (.val (.arr 32 (.int .i64)))]
abbrev bS:List Ty:= []
def ent:Ent Tryz.prog:=bE (D:=D) (tab:=tab) hE0 (ay _) [true] Tryz.func128 (by kernel_rfl) bU aS bS res (fun x y=>r x.1 x.2.1) (fun x y=>g (fun c z=>req c z) (fun x=>some (res x)) x.1 x.2.1) (fun _ _=>by kernel_rfl) (by
 intro x y
 show J _ (g chk (fun x=>(true,x)) x.1 x.2.1) (g (fun c z=>req c z) (fun x=>some (res x)) x.1 x.2.1)
 unfold g
 with_reducible repeat (first|(apply J.lt; intro _)|apply J.rq|apply J.bif|exact J.rt rfl))
end dM
namespace dI
abbrev X:Type:=(List Int)
def res (x:(List Int)):Res:=⟨[.val ⟨.arr 32 (.int .i64),x⟩],[],[]⟩
abbrev sh0:List (Nat×Sh):= [(2,.pb 500000 (.arr 32 (.int .i64)) []),(3,.pb 500001 (.arr 32 (.int .i64)) []),(4,.pb 500002 (.arr 32 (.int .i64)) []),(5,.p (.int .i64)),(6,.pb 500003 (.arr 32 (.int .i64)) []),(7,.p (.int .i64))]
abbrev bx0:List (Nat×Ty):= [(500000,.arr 32 (.int .i64)),(500001,.arr 32 (.int .i64)),(500002,.arr 32 (.int .i64)),(500003,.arr 32 (.int .i64))]
abbrev aZ:List (Nat×Ty):= [(500000,.arr 32 (.int .i64)),(500001,.arr 32 (.int .i64)),(500002,.arr 32 (.int .i64)),(500003,.arr 32 (.int .i64))]
abbrev aY:List (Nat×Sh):= []
abbrev bf:List (Nat×Ty):= []
abbrev bW:List (Nat×Ty):= []
abbrev X0:Type:=Unit×Unit×Unit×Int×Unit×Int×Unit
abbrev Y0:Type:=(List Int)×(List Int)×(List Int)×(List Int)×Unit
abbrev U0:Type:=Unit
abbrev V0:Type:=Unit
def g0 {Z:Type} (rq:Bool→Z→Z) (kn:X0→Y0→Z) (ke:Nat→X0→Y0→Z) (kr:U0→V0→Z) (x:X0) (y:Y0):Z:=
lt (ilt x.2.2.2.2.2.1 32) fun v2128=>
bif v2128 then
rq (ile (0:Int) x.2.2.2.2.2.1&&ilt x.2.2.2.2.2.1 32)<|
lt (y.1.getD x.2.2.2.2.2.1.toNat 0) fun (v2129:Int)=>
rq (ile (0:Int) x.2.2.2.2.2.1&&ilt x.2.2.2.2.2.1 32)<|
lt (y.2.1.getD x.2.2.2.2.2.1.toNat 0) fun (v2130:Int)=>
lt (IntKind.i64.wrap (v2129 - v2130)) fun v2131=>
lt (IntKind.i64.wrap (v2131 - x.2.2.2.1)) fun v2132=>
lt (ilt v2132 0) fun v2133=>
bif v2133 then
lt (IntKind.i64.wrap (v2132+65536)) fun v2134=>
rq (ile (0:Int) x.2.2.2.2.2.1&&ilt x.2.2.2.2.2.1 32)<|
lt (y.2.2.2.1.set x.2.2.2.2.2.1.toNat v2134) fun (v2135:(List Int))=>
lt (IntKind.i64.wrap (x.2.2.2.2.2.1+1)) fun v2136=>
kn ((),(),(),1,(),v2136,()) (y.1,y.2.1,y.2.2.1,v2135,())
else
rq (ile (0:Int) x.2.2.2.2.2.1&&ilt x.2.2.2.2.2.1 32)<|
lt (y.2.2.2.1.set x.2.2.2.2.2.1.toNat v2132) fun (v2137:(List Int))=>
lt (IntKind.i64.wrap (x.2.2.2.2.2.1+1)) fun v2138=>
kn ((),(),(),0,(),v2138,()) (y.1,y.2.1,y.2.2.1,v2137,())
else
ke 0 ((),(),(),x.2.2.2.1,(),x.2.2.2.2.2.1,()) (y.1,y.2.1,y.2.2.1,y.2.2.2.1,())
def fu0 (x:X0) (y:Y0):Nat:=((32:Int) - x.2.2.2.2.2.1).toNat+1
def l0 (x:X0) (y:Y0):Bool×Nat×X0×Y0×U0×V0:=rounds (fun rq kn ke kr x y=>g0 rq kn ke kr x y) () () (fu0 x y) x y
def g {Z:Type} (rq:Bool→Z→Z) (rt:X→Z) (a:(List Int)) (b:(List Int)):Z:=
lt (List.replicate 32 0) fun (v2062:(List Int))=>
lt (List.replicate 32 0) fun (v2063:(List Int))=>
lt (List.replicate 32 0) fun (v2064:(List Int))=>
lt (dI.l0 ((),(),(),0,(),0,()) (a,b,v2062,v2063,())) fun w2139=>
rq w2139.1<|
rt w2139.2.2.2.1.2.2.2.1
def r (a:(List Int)) (b:(List Int)):Bool×X:=g chk (fun x=>(true,x)) a b
def D:aH:=Dof (P:=Tryz.prog) []
abbrev lf0:=dh (R:=Res) [1] (rounds (fun rq kn ke kr x y=>g0 rq kn ke kr x y) () ()) fu0
def tab:List (Nat×LE Res):= [(5,.typed (eG 31 sh0 bx0 aZ aY bf (lf0)))]
theorem bT:Nonempty (Told E0 D tab Tryz.f129.ntmps (aF (codeOf Tryz.f129) 0) 31 sh0 bx0 aZ aY bf lf0):=fE (sh:=sh0) (bx:=bx0) (ord:=aZ) (shR:=aY) (bxR:=bf) bW (by kernel_rfl) (by kernel_rfl) (by kernel_rfl) [1] _ _ _ @g0 (fun _ _ _ _ _=>by kernel_rfl) (by
  intro _ _ _ _ _ _ _ h i k x y
  simp only [g0]
  with_reducible repeat (first|(apply J.lt; intro _)|apply J.rq|apply J.bif|exact h _ _|exact i _ (by decide) _ _|exact k (by decide) _ _))
theorem bU:fI E0 D tab Tryz.f129.ntmps (codeOf Tryz.f129):=bP (bs:= [aF (codeOf Tryz.f129) 0]) (by kernel_rfl) (aD (bO (by kernel_rfl) (bT)) aO)
abbrev aS:List AS:= [.one (.val (.arr 32 (.int .i64))),.one (.val (.arr 32 (.int .i64)))]
abbrev bS:List Ty:= []
def ent:Ent Tryz.prog:=bE (D:=D) (tab:=tab) hE0 (ay _) [true] Tryz.func129 (by kernel_rfl) bU aS bS res (fun x y=>r x.1 x.2.1) (fun x y=>g (fun c z=>req c z) (fun x=>some (res x)) x.1 x.2.1) (fun _ _=>by kernel_rfl) (by
 intro x y
 show J _ (g chk (fun x=>(true,x)) x.1 x.2.1) (g (fun c z=>req c z) (fun x=>some (res x)) x.1 x.2.1)
 unfold g
 with_reducible repeat (first|(apply J.lt; intro _)|apply J.rq|apply J.bif|exact J.rt rfl))
end dI
namespace aR
abbrev X:Type:=(List Int)×(List Int)
def res (x:(List Int)×(List Int)):Res:=⟨[.val ⟨.arr 32 (.int .i64),x.1⟩,.val ⟨.arr 32 (.int .i64),x.2⟩],[],[]⟩
abbrev sh0:List (Nat×Sh):= [(2,.pb 500000 (.arr 32 (.int .i64)) []),(3,.pb 500001 (.arr 32 (.int .i64)) []),(4,.pb 500002 (.arr 32 (.int .i64)) []),(5,.pb 500003 (.arr 32 (.int .i64)) []),(6,.pb 500004 (.arr 32 (.int .i64)) []),(7,.pb 500005 (.arr 32 (.int .i64)) []),(8,.p (.int .i64))]
abbrev bx0:List (Nat×Ty):= [(500000,.arr 32 (.int .i64)),(500001,.arr 32 (.int .i64)),(500002,.arr 32 (.int .i64)),(500003,.arr 32 (.int .i64)),(500004,.arr 32 (.int .i64)),(500005,.arr 32 (.int .i64))]
abbrev aZ:List (Nat×Ty):= [(500000,.arr 32 (.int .i64)),(500001,.arr 32 (.int .i64)),(500002,.arr 32 (.int .i64)),(500003,.arr 32 (.int .i64)),(500004,.arr 32 (.int .i64)),(500005,.arr 32 (.int .i64))]
abbrev aY:List (Nat×Sh):= []
abbrev bf:List (Nat×Ty):= []
abbrev bW:List (Nat×Ty):= []
abbrev X0:Type:=Unit×Unit×Unit×Unit×Unit×Unit×Int×Unit
abbrev Y0:Type:=(List Int)×(List Int)×(List Int)×(List Int)×(List Int)×(List Int)×Unit
abbrev U0:Type:=Unit
abbrev V0:Type:=Unit
def g0 {Z:Type} (rq:Bool→Z→Z) (kn:X0→Y0→Z) (ke:Nat→X0→Y0→Z) (kr:U0→V0→Z) (x:X0) (y:Y0):Z:=
lt (ile 0 x.2.2.2.2.2.2.1) fun v2224=>
bif v2224 then
lt (IntKind.i64.wrap (x.2.2.2.2.2.2.1.tdiv 16)) fun v2225=>
rq (ile (0:Int) v2225&&ilt v2225 32)<|
lt (y.1.getD v2225.toNat 0) fun (v2226:Int)=>
lt (x.2.2.2.2.2.2.1.tmod 16) fun (v2227:Int)=>
lt (v2226.fdiv (2^(min v2227.toNat 64))) fun (v2228:Int)=>
rq (!ilt v2227 0)<|
lt (fq .i64 (· &&& ·) v2228 (1:Int)) fun v2229=>
lt (dn.r y.2.2.2.2.2.1 v2229) fun w2230=>
rq w2230.1<|
lt (dM.r w2230.2 y.2.1) fun w2231=>
rq w2231.1<|
lt (!w2231.2) fun (v2232:Bool)=>
bif v2232 then
lt (dI.r w2230.2 y.2.1) fun w2233=>
rq w2233.1<|
lt (IntKind.i64.wrap (x.2.2.2.2.2.2.1.tdiv 16)) fun v2234=>
lt (IntKind.i64.wrap (x.2.2.2.2.2.2.1.tdiv 16)) fun v2235=>
rq (ile (0:Int) v2235&&ilt v2235 32)<|
lt (y.2.2.2.2.1.getD v2235.toNat 0) fun (v2236:Int)=>
lt (x.2.2.2.2.2.2.1.tmod 16) fun (v2237:Int)=>
lt (IntKind.i64.wrap ((1:Int)*2^(min v2237.toNat 64))) fun v2238=>
rq (!ilt v2237 0)<|
lt (fq .i64 (· ||| ·) v2236 v2238) fun v2239=>
rq (ile (0:Int) v2234&&ilt v2234 32)<|
lt (y.2.2.2.2.1.set v2234.toNat v2239) fun (v2240:(List Int))=>
lt (IntKind.i64.wrap (x.2.2.2.2.2.2.1 - 1)) fun v2241=>
kn ((),(),(),(),(),(),v2241,()) (y.1,y.2.1,y.2.2.1,y.2.2.2.1,v2240,w2233.2,())
else
lt (IntKind.i64.wrap (x.2.2.2.2.2.2.1 - 1)) fun v2242=>
kn ((),(),(),(),(),(),v2242,()) (y.1,y.2.1,y.2.2.1,y.2.2.2.1,y.2.2.2.2.1,w2230.2,())
else
ke 0 ((),(),(),(),(),(),x.2.2.2.2.2.2.1,()) (y.1,y.2.1,y.2.2.1,y.2.2.2.1,y.2.2.2.2.1,y.2.2.2.2.2.1,())
def fu0 (x:X0) (y:Y0):Nat:=(x.2.2.2.2.2.2.1 - (0:Int)+1).toNat+1
def l0 (x:X0) (y:Y0):Bool×Nat×X0×Y0×U0×V0:=rounds (fun rq kn ke kr x y=>g0 rq kn ke kr x y) () () (fu0 x y) x y
def g {Z:Type} (rq:Bool→Z→Z) (rt:X→Z) (a:(List Int)) (m:(List Int)):Z:=
lt (List.replicate 32 0) fun (v1921:(List Int))=>
lt (List.replicate 32 0) fun (v1922:(List Int))=>
lt (List.replicate 32 0) fun (v1923:(List Int))=>
lt (List.replicate 32 0) fun (v1924:(List Int))=>
lt (List.replicate 32 0) fun (v1925:(List Int))=>
lt (List.replicate 32 0) fun (v1926:(List Int))=>
lt (aR.l0 ((),(),(),(),(),(),511,()) (a,m,v1921,v1922,v1923,v1924,())) fun w2243=>
rq w2243.1<|
rt (w2243.2.2.2.1.2.2.2.2.1,w2243.2.2.2.1.2.2.2.2.2.1)
def r (a:(List Int)) (m:(List Int)):Bool×X:=g chk (fun x=>(true,x)) a m
def D:aH:=Dof (P:=Tryz.prog) [dn.ent,dM.ent,dI.ent]
abbrev lf0:=dh (R:=Res) [1] (rounds (fun rq kn ke kr x y=>g0 rq kn ke kr x y) () ()) fu0
def tab:List (Nat×LE Res):= [(4,.typed (eG 45 sh0 bx0 aZ aY bf (lf0)))]
theorem bT:Nonempty (Told E0 D tab Tryz.f95.ntmps (aF (codeOf Tryz.f95) 0) 45 sh0 bx0 aZ aY bf lf0):=fE (sh:=sh0) (bx:=bx0) (ord:=aZ) (shR:=aY) (bxR:=bf) bW (by kernel_rfl) (by kernel_rfl) (by kernel_rfl) [1] _ _ _ @g0 (fun _ _ _ _ _=>by kernel_rfl) (by
  intro _ _ _ _ _ _ _ h i k x y
  simp only [g0]
  with_reducible repeat (first|(apply J.lt; intro _)|apply J.rq|apply J.bif|exact h _ _|exact i _ (by decide) _ _|exact k (by decide) _ _))
theorem bU:fI E0 D tab Tryz.f95.ntmps (codeOf Tryz.f95):=bP (bs:= [aF (codeOf Tryz.f95) 0]) (by kernel_rfl) (aD (bO (by kernel_rfl) (bT)) aO)
abbrev aS:List AS:= [.one (.val (.arr 32 (.int .i64))),.one (.val (.arr 32 (.int .i64)))]
abbrev bS:List Ty:= []
def ent:Ent Tryz.prog:=bE (D:=D) (tab:=tab) hE0 (ay _) [true,true] Tryz.func95 (by kernel_rfl) bU aS bS res (fun x y=>r x.1 x.2.1) (fun x y=>g (fun c z=>req c z) (fun x=>some (res x)) x.1 x.2.1) (fun _ _=>by kernel_rfl) (by
 intro x y
 show J _ (g chk (fun x=>(true,x)) x.1 x.2.1) (g (fun c z=>req c z) (fun x=>some (res x)) x.1 x.2.1)
 unfold g
 with_reducible repeat (first|(apply J.lt; intro _)|apply J.rq|apply J.bif|exact J.rt rfl))
end aR
namespace dJ
abbrev X:Type:=(List Int)×(List Int)
def res (x:(List Int)×(List Int)):Res:=⟨[.val ⟨.arr 4 (.int .u64),x.1⟩,.val ⟨.arr 4 (.int .u64),x.2⟩],[],[]⟩
abbrev sh0:List (Nat×Sh):= [(1,.pb 500000 (.arr 32 (.int .i64)) []),(2,.pb 500001 (.arr 4 (.int .u64)) []),(3,.pb 500002 (.arr 4 (.int .u64)) []),(4,.pb 500003 (.arr 4 (.int .u64)) []),(5,.pb 500004 (.arr 4 (.int .u64)) []),(6,.p (.int .i64))]
abbrev bx0:List (Nat×Ty):= [(500000,.arr 32 (.int .i64)),(500001,.arr 4 (.int .u64)),(500002,.arr 4 (.int .u64)),(500003,.arr 4 (.int .u64)),(500004,.arr 4 (.int .u64))]
abbrev aZ:List (Nat×Ty):= [(500000,.arr 32 (.int .i64)),(500001,.arr 4 (.int .u64)),(500002,.arr 4 (.int .u64)),(500003,.arr 4 (.int .u64)),(500004,.arr 4 (.int .u64))]
abbrev aY:List (Nat×Sh):= []
abbrev bf:List (Nat×Ty):= []
abbrev bW:List (Nat×Ty):= []
abbrev X0:Type:=Unit×Unit×Unit×Unit×Unit×Int×Unit
abbrev Y0:Type:=(List Int)×(List Int)×(List Int)×(List Int)×(List Int)×Unit
abbrev U0:Type:=Unit
abbrev V0:Type:=Unit
def g0 {Z:Type} (rq:Bool→Z→Z) (kn:X0→Y0→Z) (ke:Nat→X0→Y0→Z) (kr:U0→V0→Z) (x:X0) (y:Y0):Z:=
lt (ilt x.2.2.2.2.2.1 16) fun v2319=>
bif v2319 then
lt (IntKind.i64.wrap (x.2.2.2.2.2.1.tdiv 4)) fun v2320=>
lt (IntKind.i64.wrap (x.2.2.2.2.2.1.tdiv 4)) fun v2321=>
rq (ile (0:Int) v2321&&ilt v2321 4)<|
lt (y.2.2.2.1.getD v2321.toNat 0) fun (v2322:Int)=>
rq (ile (0:Int) x.2.2.2.2.2.1&&ilt x.2.2.2.2.2.1 32)<|
lt (y.1.getD x.2.2.2.2.2.1.toNat 0) fun (v2323:Int)=>
lt (IntKind.u64.wrap (v2323)) fun v2324=>
lt (x.2.2.2.2.2.1.tmod 4) fun (v2325:Int)=>
lt (IntKind.i64.wrap ((16:Int)*v2325)) fun v2326=>
lt (IntKind.u64.wrap (v2324*2^(min v2326.toNat 64))) fun v2327=>
rq (!ilt v2326 0)<|
lt (fq .u64 (· ||| ·) v2322 v2327) fun v2328=>
rq (ile (0:Int) v2320&&ilt v2320 4)<|
lt (y.2.2.2.1.set v2320.toNat v2328) fun (v2329:(List Int))=>
lt (IntKind.i64.wrap (x.2.2.2.2.2.1.tdiv 4)) fun v2330=>
lt (IntKind.i64.wrap (x.2.2.2.2.2.1.tdiv 4)) fun v2331=>
rq (ile (0:Int) v2331&&ilt v2331 4)<|
lt (y.2.2.2.2.1.getD v2331.toNat 0) fun (v2332:Int)=>
lt (IntKind.i64.wrap ((16:Int)+x.2.2.2.2.2.1)) fun v2333=>
rq (ile (0:Int) v2333&&ilt v2333 32)<|
lt (y.1.getD v2333.toNat 0) fun (v2334:Int)=>
lt (IntKind.u64.wrap (v2334)) fun v2335=>
lt (x.2.2.2.2.2.1.tmod 4) fun (v2336:Int)=>
lt (IntKind.i64.wrap ((16:Int)*v2336)) fun v2337=>
lt (IntKind.u64.wrap (v2335*2^(min v2337.toNat 64))) fun v2338=>
rq (!ilt v2337 0)<|
lt (fq .u64 (· ||| ·) v2332 v2338) fun v2339=>
rq (ile (0:Int) v2330&&ilt v2330 4)<|
lt (y.2.2.2.2.1.set v2330.toNat v2339) fun (v2340:(List Int))=>
lt (IntKind.i64.wrap (x.2.2.2.2.2.1+1)) fun v2341=>
kn ((),(),(),(),(),v2341,()) (y.1,y.2.1,y.2.2.1,v2329,v2340,())
else
ke 0 ((),(),(),(),(),x.2.2.2.2.2.1,()) (y.1,y.2.1,y.2.2.1,y.2.2.2.1,y.2.2.2.2.1,())
def fu0 (x:X0) (y:Y0):Nat:=SF (((16:Int) - x.2.2.2.2.2.1).toNat+1)
def l0 (x:X0) (y:Y0):Bool×Nat×X0×Y0×U0×V0:=rounds (fun rq kn ke kr x y=>g0 rq kn ke kr x y) () () (fu0 x y) x y
def g {Z:Type} (rq:Bool→Z→Z) (rt:X→Z) (d:(List Int)):Z:=
lt (dJ.l0 ((),(),(),(),(),0,()) (d,[0,0,0,0],[0,0,0,0],[0,0,0,0],[0,0,0,0],())) fun w2342=>
rq w2342.1<|
rt (w2342.2.2.2.1.2.2.2.1,w2342.2.2.2.1.2.2.2.2.1)
def r (d:(List Int)):Bool×X:=g chk (fun x=>(true,x)) d
def D:aH:=Dof (P:=Tryz.prog) []
abbrev lf0:=dh (R:=Res) [1] (rounds (fun rq kn ke kr x y=>g0 rq kn ke kr x y) () ()) fu0
def tab:List (Nat×LE Res):= [(4,.typed (eG 48 sh0 bx0 aZ aY bf (lf0)))]
theorem bT:Nonempty (Told E0 D tab Tryz.f97.ntmps (aF (codeOf Tryz.f97) 0) 48 sh0 bx0 aZ aY bf lf0):=fE (sh:=sh0) (bx:=bx0) (ord:=aZ) (shR:=aY) (bxR:=bf) bW (by kernel_rfl) (by kernel_rfl) (by kernel_rfl) [1] _ _ _ @g0 (fun _ _ _ _ _=>by kernel_rfl) (by
  intro _ _ _ _ _ _ _ h i k x y
  simp only [g0]
  with_reducible repeat (first|(apply J.lt; intro _)|apply J.rq|apply J.bif|exact h _ _|exact i _ (by decide) _ _|exact k (by decide) _ _))
theorem bU:fI E0 D tab Tryz.f97.ntmps (codeOf Tryz.f97):=bP (bs:= [aF (codeOf Tryz.f97) 0]) (by kernel_rfl) (aD (bO (by kernel_rfl) (bT)) aO)
abbrev aS:List AS:= [.one (.val (.arr 32 (.int .i64)))]
abbrev bS:List Ty:= []
def ent:Ent Tryz.prog:=bE (D:=D) (tab:=tab) hE0 (ay _) [true,true] Tryz.func97 (by kernel_rfl) bU aS bS res (fun x y=>r x.1) (fun x y=>g (fun c z=>req c z) (fun x=>some (res x)) x.1) (fun _ _=>by kernel_rfl) (by
 intro x y
 show J _ (g chk (fun x=>(true,x)) x.1) (g (fun c z=>req c z) (fun x=>some (res x)) x.1)
 unfold g
 with_reducible repeat (first|(apply J.lt; intro _)|apply J.rq|apply J.bif|exact J.rt rfl))
end dJ
namespace iY
abbrev X:Type:=(List Int)×Int
def res (x:(List Int)×Int):Res:=⟨[.val ⟨.arr 4 (.int .u64),x.1⟩,.val ⟨.int .i64,x.2⟩],[],[]⟩
def g {Z:Type} (rq:Bool→Z→Z) (rt:X→Z) (low:(List Int)) (high:(List Int)) (m:(List Int)):Z:=
lt (ieq (m.getD 0 0) 0&&(ieq (m.getD 1 0) 0&&(ieq (m.getD 2 0) 0&&(ieq (m.getD 3 0) 0&&true)))) fun v1805=>
bif v1805 then
rt ([0,0,0,0],1)
else
lt (dQ.r low high) fun w1919=>
rq w1919.1<|
lt (dQ.r m [0,0,0,0]) fun w1920=>
rq w1920.1<|
lt (aR.r w1919.2 w1920.2) fun w2244=>
rq w2244.1<|
lt (List.replicate 32 0) fun (v2245:(List Int))=>
lt (List.replicate 32 0) fun (v2246:(List Int))=>
lt (dJ.r w2244.2.2) fun w2343=>
rq w2343.1<|
rt (w2343.2.1,0)
def r (low:(List Int)) (high:(List Int)) (m:(List Int)):Bool×X:=g chk (fun x=>(true,x)) low high m
def D:aH:=Dof (P:=Tryz.prog) [dQ.ent,aR.ent,dJ.ent]
def tab:List (Nat×LE Res):= []
abbrev aS:List AS:= [.one (.val (.arr 4 (.int .u64))),.one (.val (.arr 4 (.int .u64))),.one (.val (.arr 4 (.int .u64)))]
abbrev bS:List Ty:= []
def ent:Ent Tryz.prog:=bE (D:=D) (tab:=tab) hE0 (ay _) [true,true] Tryz.func64 (by kernel_rfl) aC aS bS res (fun x y=>r x.1 x.2.1 x.2.2.1) (fun x y=>g (fun c z=>req c z) (fun x=>some (res x)) x.1 x.2.1 x.2.2.1) (fun _ _=>by kernel_rfl) (by
 intro x y
 show J _ (g chk (fun x=>(true,x)) x.1 x.2.1 x.2.2.1) (g (fun c z=>req c z) (fun x=>some (res x)) x.1 x.2.1 x.2.2.1)
 unfold g
 with_reducible repeat (first|(apply J.lt; intro _)|apply J.rq|apply J.bif|exact J.rt rfl))
end iY
namespace gJ
abbrev X:Type:=Int
def res (x:Int):Res:=⟨[.val ⟨.int .i64,x⟩],[],[]⟩
def g {Z:Type} (rq:Bool→Z→Z) (rt:X→Z) (a:(List Int)) (qx:Int):Z:=
lt (aI.r qx) fun w1804=>
rq w1804.1<|
lt (iY.r a [0,0,0,0] w1804.2) fun w2344=>
rq w2344.1<|
lt (bM.r w2344.2.1) fun w2345=>
rq w2345.1<|
rt w2345.2.1
def r (a:(List Int)) (qx:Int):Bool×X:=g chk (fun x=>(true,x)) a qx
def D:aH:=Dof (P:=Tryz.prog) [aI.ent,iY.ent,bM.ent]
def tab:List (Nat×LE Res):= []
abbrev aS:List AS:= [.one (.val (.arr 4 (.int .u64))),.one (.val (.int .i64))]
abbrev bS:List Ty:= []
def ent:Ent Tryz.prog:=bE (D:=D) (tab:=tab) hE0 (ay _) [true] Tryz.func35 (by kernel_rfl) aC aS bS res (fun x y=>r x.1 x.2.1) (fun x y=>g (fun c z=>req c z) (fun x=>some (res x)) x.1 x.2.1) (fun _ _=>by kernel_rfl) (by
 intro x y
 show J _ (g chk (fun x=>(true,x)) x.1 x.2.1) (g (fun c z=>req c z) (fun x=>some (res x)) x.1 x.2.1)
 unfold g
 with_reducible repeat (first|(apply J.lt; intro _)|apply J.rq|apply J.bif|exact J.rt rfl))
end gJ
namespace dH
abbrev X:Type:=(List Int)
def res (x:(List Int)):Res:=⟨[.val ⟨.sl (.int .i64),x⟩],[],[]⟩
abbrev sh0:List (Nat×Sh):= [(0,.p (.sl (.arr 4 (.int .u64)))),(1,.p (.int .i64)),(4,.nil),(5,.va 500000 (.int .i64)),(6,.p (.int .i64))]
abbrev bx0:List (Nat×Ty):= [(500000,.dyn (.int .i64))]
abbrev aZ:List (Nat×Ty):= [(500000,.dyn (.int .i64))]
abbrev aY:List (Nat×Sh):= []
abbrev bf:List (Nat×Ty):= []
abbrev bW:List (Nat×Ty):= []
abbrev X0:Type:=(List (List Int))×Int×Unit×Unit×Int×Unit
abbrev Y0:Type:=(Bool×List Int)×Unit
abbrev U0:Type:=Unit
abbrev V0:Type:=Unit
def g0 {Z:Type} (rq:Bool→Z→Z) (kn:X0→Y0→Z) (ke:Nat→X0→Y0→Z) (kr:U0→V0→Z) (x:X0) (y:Y0):Z:=
lt (x.1.length:Int) fun (v2348:Int)=>
lt (ilt x.2.2.2.2.1 v2348) fun v2349=>
bif v2349 then
lt (x.1.getD x.2.2.2.2.1.toNat [0,0,0,0]) fun (v2350:(List Int))=>
rq (ile (0:Int) x.2.2.2.2.1&&ilt x.2.2.2.2.1 (x.1.length:Int))<|
lt (gJ.r v2350 x.2.1) fun w2351=>
rq w2351.1<|
lt (y.1.1&&false) fun (v2352:Bool)=>
lt (y.1.2++ [w2351.2]) fun (v2353:(List Int))=>
rq (nle ((2*(y.1.2.length+1)+512)*8) 70368744177664)<|
lt (IntKind.i64.wrap (x.2.2.2.2.1+1)) fun v2354=>
kn (x.1,x.2.1,(),(),v2354,()) ((v2352,v2353),())
else
ke 0 (x.1,x.2.1,(),(),x.2.2.2.2.1,()) (y.1,())
def fu0 (x:X0) (y:Y0):Nat:=((x.1.length:Int) - x.2.2.2.2.1).toNat+1
def l0 (x:X0) (y:Y0):Bool×Nat×X0×Y0×U0×V0:=rounds (fun rq kn ke kr x y=>g0 rq kn ke kr x y) () () (fu0 x y) x y
def g {Z:Type} (rq:Bool→Z→Z) (rt:X→Z) (l:(List (List Int))) (qx:Int):Z:=
lt (dH.l0 (l,qx,(),(),0,()) ((true,[]),())) fun w2355=>
rq w2355.1<|
rt w2355.2.2.2.1.1.2
def r (l:(List (List Int))) (qx:Int):Bool×X:=g chk (fun x=>(true,x)) l qx
def D:aH:=Dof (P:=Tryz.prog) [gJ.ent]
abbrev lf0:=dh (R:=Res) [1] (rounds (fun rq kn ke kr x y=>g0 rq kn ke kr x y) () ()) fu0
def tab:List (Nat×LE Res):= [(4,.typed (eG 23 sh0 bx0 aZ aY bf (lf0)))]
theorem bT:Nonempty (Told E0 D tab Tryz.f12.ntmps (aF (codeOf Tryz.f12) 0) 23 sh0 bx0 aZ aY bf lf0):=fE (sh:=sh0) (bx:=bx0) (ord:=aZ) (shR:=aY) (bxR:=bf) bW (by kernel_rfl) (by kernel_rfl) (by kernel_rfl) [1] _ _ _ @g0 (fun _ _ _ _ _=>by kernel_rfl) (by
  intro _ _ _ _ _ _ _ h i k x y
  simp only [g0]
  with_reducible repeat (first|(apply J.lt; intro _)|apply J.rq|apply J.bif|exact h _ _|exact i _ (by decide) _ _|exact k (by decide) _ _))
theorem bU:fI E0 D tab Tryz.f12.ntmps (codeOf Tryz.f12):=bP (bs:= [aF (codeOf Tryz.f12) 0]) (by kernel_rfl) (aD (bO (by kernel_rfl) (bT)) aO)
abbrev aS:List AS:= [.one (.val (.sl (.arr 4 (.int .u64)))),.one (.val (.int .i64))]
abbrev bS:List Ty:= []
def ent:Ent Tryz.prog:=bE (D:=D) (tab:=tab) hE0 (ay _) [true] Tryz.func12 (by kernel_rfl) bU aS bS res (fun x y=>r x.1 x.2.1) (fun x y=>g (fun c z=>req c z) (fun x=>some (res x)) x.1 x.2.1) (fun _ _=>by kernel_rfl) (by
 intro x y
 show J _ (g chk (fun x=>(true,x)) x.1 x.2.1) (g (fun c z=>req c z) (fun x=>some (res x)) x.1 x.2.1)
 unfold g
 with_reducible repeat (first|(apply J.lt; intro _)|apply J.rq|apply J.bif|exact J.rt rfl))
end dH
end Go.Own
