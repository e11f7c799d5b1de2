/- What functions compute, printed by wip/gen/gen2.py. -/
import Derived.Test.YtnighkkdmgmcnaaGreatG7
set_option linter.unusedVariables false
set_option linter.unusedSimpArgs false
set_option maxRecDepth 100000
noncomputable section
namespace Go.Own
open Go.Proofs Go.Proofs.YtnighkkdmgmcnaaGreat
namespace cO
abbrev X:Type:=Bool
def res (x:Bool):Res:=⟨[.val ⟨.bool,x⟩],[],[]⟩
def brn (w:Bool×X):Brn Res:= .one w.1 (res w.2)
theorem cB (w:Bool×X):(brn w).res=(w.1,res w.2):=rfl
abbrev sh0:List (Nat×Sh):= [(0,.p (.sl (.arr 4 (.int .u64)))),(1,.p (.sl (.arr 4 (.int .u64)))),(4,.p .bool),(5,.p (.int .i64))]
abbrev bx0:List (Nat×Ty):= []
abbrev aY:List (Nat×Ty):= []
abbrev aX:List (Nat×Sh):= [(4,.p .bool)]
abbrev aZ:List (Nat×Ty):= []
abbrev bX:List (Nat×Ty):= []
abbrev X0:Type:=(List (List Int))×(List (List Int))×Bool×Int×Unit
abbrev Y0:Type:=Unit
abbrev U0:Type:=Bool×Unit
abbrev V0:Type:=Unit
def g0 {Z:Type} (rq:Bool→Z→Z) (kn:X0→Y0→Z) (ke:Nat→X0→Y0→Z) (kr:U0→V0→Z) (x:X0) (y:Y0):Z:=
lt (x.1.length:Int) fun (v1756:Int)=>
lt (ilt x.2.2.2.1 v1756) fun v1757=>
bif v1757 then
lt (x.1.getD x.2.2.2.1.toNat [0,0,0,0]) fun (v1758:(List Int))=>
rq (ile (0:Int) x.2.2.2.1&&ilt x.2.2.2.1 (x.1.length:Int))<|
lt (x.2.1.getD x.2.2.2.1.toNat [0,0,0,0]) fun (v1759:(List Int))=>
rq (ile (0:Int) x.2.2.2.1&&ilt x.2.2.2.1 (x.2.1.length:Int))<|
lt (!(ieq (v1758.getD 0 0) (v1759.getD 0 0)&&(ieq (v1758.getD 1 0) (v1759.getD 1 0)&&(ieq (v1758.getD 2 0) (v1759.getD 2 0)&&(ieq (v1758.getD 3 0) (v1759.getD 3 0)&&true))))) fun (v1760:Bool)=>
bif v1760 then
kr (false,()) ()
else
lt (IntKind.i64.wrap (x.2.2.2.1+1)) fun v1761=>
kn (x.1,x.2.1,x.2.2.1,v1761,()) ()
else
ke 0 (x.1,x.2.1,x.2.2.1,x.2.2.2.1,()) ()
def fu0 (x:X0) (y:Y0):Nat:=((x.1.length:Int) - x.2.2.2.1).toNat+1
def l0 (x:X0) (y:Y0):Bool×Nat×X0×Y0×U0×V0:=rounds (fun rq kn ke kr x y=>g0 rq kn ke kr x y) (false,()) () (fu0 x y) x y
def g {Z:Type} (rq:Bool→Z→Z) (rt:X→Z) (a:(List (List Int))) (b:(List (List Int))):Z:=
lt (a.length:Int) fun (v1751:Int)=>
lt (b.length:Int) fun (v1752:Int)=>
lt (v1751 != v1752) fun (v1753:Bool)=>
bif v1753 then
rt false
else
lt (cO.l0 (a,b,false,0,()) ()) fun w1762=>
rq w1762.1<|
bif Nat.beq w1762.2.1 0 then
rt w1762.2.2.2.2.1.1
else
rt true
def r (a:(List (List Int))) (b:(List (List Int))):Bool×X:=g chk (fun x=>(true,x)) a b
def D:aH:=Dof (P:=Tryz.prog) []
abbrev lf0:=dw (R:=Res) [0,1] (rounds (fun rq kn ke kr x y=>g0 rq kn ke kr x y) (false,()) ()) fu0
def tab:List (Nat×LE Res):= [(5,.typed (eY 26 sh0 bx0 aY aX aZ (lf0)))]
theorem run (a:(List (List Int))) (b:(List (List Int))):gL E0 [true] D (iG E0 D tab 9) Tryz.f19 (codeOf Tryz.f19) [.val ⟨.sl (.arr 4 (.int .u64)),a⟩,.val ⟨.sl (.arr 4 (.int .u64)),b⟩] []=g (fun c z=>req c z) (fun x=>some (res x)) a b:=by kernel_rfl
theorem rel (a:(List (List Int))) (b:(List (List Int))):J (fun w z=>z=some (res w)) (g chk (fun x=>(true,x)) a b) (g (fun c z=>req c z) (fun x=>some (res x)) a b):=by
 unfold g
 with_reducible repeat (first|(apply J.lt; intro _)|apply J.rq|apply J.bif|exact J.rt rfl)
theorem bV:Nonempty (Told E0 D tab Tryz.f19.ntmps (aG (codeOf Tryz.f19) 0) 26 sh0 bx0 aY aX aZ lf0):=fH (sh:=sh0) (bx:=bx0) (ord:=aY) (shR:=aX) (bxR:=aZ) bX (by kernel_rfl) (by kernel_rfl) (by kernel_rfl) [0,1] _ _ _ @g0 (fun _ _ _ _ _=>by kernel_rfl) (by
  intro _ _ _ _ _ _ _ h i k x y
  simp only [g0]
  with_reducible repeat (first|(apply J.lt; intro _)|apply J.rq|apply J.bif|exact h _ _|exact i _ (by decide) _ _|exact k (by decide) _ _))
theorem bW:fQ E0 D tab Tryz.f19.ntmps (codeOf Tryz.f19):=bT (bs:= [aG (codeOf Tryz.f19) 0]) (by kernel_rfl) (aF (bP (by kernel_rfl) (bV)) aO)
theorem ok:nA Tryz.f19=true:=by kernel_rfl
abbrev aS:List AS:= [.one (.val (.sl (.arr 4 (.int .u64)))),.one (.val (.sl (.arr 4 (.int .u64))))]
abbrev bS:List Ty:= []
def F (x:ASs aS) (y:Bs bS):Brn Res:=brn (r x.1 x.2.1)
theorem good (x:ASs aS) (y:Bs bS) (h:(F x y).res.1=true):Good Tryz.prog 19 (ASs.mk aS x) (Bs.mk bS y) (F x y).res.2:=
 fP hE0 (ay _) Tryz.func19 ok bW cB (run x.1 x.2.1) (rel x.1 x.2.1) h
def ent:Ent Tryz.prog:=⟨19,shF aS bS F,bM good⟩
def ro:(List (List Int))→(List (List Int))→Bool×X:=Classical.choose (⟨r,rfl⟩:∃ q:(List (List Int))→(List (List Int))→Bool×X,q=r)
theorem gB:ro=r:=Classical.choose_spec (⟨r,rfl⟩:∃ q:(List (List Int))→(List (List Int))→Bool×X,q=r)
def FO (x:ASs aS) (y:Bs bS):Brn Res:=brn (ro x.1 x.2.1)
theorem jN:FO=F:=by unfold FO F; rw [gB]
def nO:Ent Tryz.prog:=⟨19,shF aS bS FO,bM (by rw [jN]; exact good)⟩
end cO
namespace dU
abbrev X:Type:=Int
def res (x:Int):Res:=⟨[.val ⟨.int .i64,x⟩],[],[]⟩
def brn (w:Bool×X):Brn Res:= .one w.1 (res w.2)
theorem cB (w:Bool×X):(brn w).res=(w.1,res w.2):=rfl
def g {Z:Type} (rq:Bool→Z→Z) (rt:X→Z) (a:Int) (b:Int) (m:Int):Z:=
lt (a.tmod m) fun (v1772:Int)=>
rq (!ieq m 0)<|
lt (IntKind.u64.wrap (v1772)) fun v1773=>
lt (b.tmod m) fun (v1774:Int)=>
rq (!ieq m 0)<|
lt (IntKind.u64.wrap (v1774)) fun v1775=>
lt (iF.r v1773 v1775) fun w1776=>
rq w1776.1<|
lt (IntKind.u64.wrap (m)) fun v1777=>
lt (fu.r w1776.2.1 w1776.2.2 v1777) fun w1778=>
rq w1778.1<|
lt (IntKind.i64.wrap (w1778.2.2)) fun v1779=>
rt v1779
def r (a:Int) (b:Int) (m:Int):Bool×X:=g chk (fun x=>(true,x)) a b m
def D:aH:=Dof (P:=Tryz.prog) [iF.ent,fu.ent]
def tab:List (Nat×LE Res):= []
theorem run (a:Int) (b:Int) (m:Int):gL E0 [true] D (iG E0 D tab 9) Tryz.f73 (codeOf Tryz.f73) [.val ⟨.int .i64,a⟩,.val ⟨.int .i64,b⟩,.val ⟨.int .i64,m⟩] []=g (fun c z=>req c z) (fun x=>some (res x)) a b m:=by kernel_rfl
theorem rel (a:Int) (b:Int) (m:Int):J (fun w z=>z=some (res w)) (g chk (fun x=>(true,x)) a b m) (g (fun c z=>req c z) (fun x=>some (res x)) a b m):=by
 unfold g
 with_reducible repeat (first|(apply J.lt; intro _)|apply J.rq|apply J.bif|exact J.rt rfl)
theorem ok:nA Tryz.f73=true:=by kernel_rfl
abbrev aS:List AS:= [.one (.val (.int .i64)),.one (.val (.int .i64)),.one (.val (.int .i64))]
abbrev bS:List Ty:= []
def F (x:ASs aS) (y:Bs bS):Brn Res:=brn (r x.1 x.2.1 x.2.2.1)
theorem good (x:ASs aS) (y:Bs bS) (h:(F x y).res.1=true):Good Tryz.prog 73 (ASs.mk aS x) (Bs.mk bS y) (F x y).res.2:=
 fP hE0 (ay _) Tryz.func73 ok aC cB (run x.1 x.2.1 x.2.2.1) (rel x.1 x.2.1 x.2.2.1) h
def ent:Ent Tryz.prog:=⟨73,shF aS bS F,bM good⟩
def ro:Int→Int→Int→Bool×X:=Classical.choose (⟨r,rfl⟩:∃ q:Int→Int→Int→Bool×X,q=r)
theorem gB:ro=r:=Classical.choose_spec (⟨r,rfl⟩:∃ q:Int→Int→Int→Bool×X,q=r)
def FO (x:ASs aS) (y:Bs bS):Brn Res:=brn (ro x.1 x.2.1 x.2.2.1)
theorem jN:FO=F:=by unfold FO F; rw [gB]
def nO:Ent Tryz.prog:=⟨73,shF aS bS FO,bM (by rw [jN]; exact good)⟩
end dU
namespace gQ
abbrev X:Type:=Int
def res (x:Int):Res:=⟨[.val ⟨.int .i64,x⟩],[],[]⟩
def brn (w:Bool×X):Brn Res:= .one w.1 (res w.2)
theorem cB (w:Bool×X):(brn w).res=(w.1,res w.2):=rfl
def g {Z:Type} (rq:Bool→Z→Z) (rt:X→Z) (a:(List Int)) (kx:Int):Z:=
lt (cZ.r a) fun w1781=>
rq w1781.1<|
lt (List.replicate 256 false) fun (v1782:(List Bool))=>
lt (ile 0 kx) fun v1783=>
bif v1783 then
lt (ilt kx 256) fun v1784=>
bif v1784 then
rq (ile (0:Int) kx&&ilt kx 256)<|
lt (w1781.2.getD kx.toNat false) fun (v1785:Bool)=>
bif v1785 then
rt 1
else
rt 0
else
rt 0
else
rt 0
def r (a:(List Int)) (kx:Int):Bool×X:=g chk (fun x=>(true,x)) a kx
def D:aH:=Dof (P:=Tryz.prog) [cZ.ent]
def tab:List (Nat×LE Res):= []
theorem run (a:(List Int)) (kx:Int):gL E0 [true] D (iG E0 D tab 9) Tryz.f94 (codeOf Tryz.f94) [.val ⟨.arr 4 (.int .u64),a⟩,.val ⟨.int .i64,kx⟩] []=g (fun c z=>req c z) (fun x=>some (res x)) a kx:=by kernel_rfl
theorem rel (a:(List Int)) (kx:Int):J (fun w z=>z=some (res w)) (g chk (fun x=>(true,x)) a kx) (g (fun c z=>req c z) (fun x=>some (res x)) a kx):=by
 unfold g
 with_reducible repeat (first|(apply J.lt; intro _)|apply J.rq|apply J.bif|exact J.rt rfl)
theorem ok:nA Tryz.f94=true:=by kernel_rfl
abbrev aS:List AS:= [.one (.val (.arr 4 (.int .u64))),.one (.val (.int .i64))]
abbrev bS:List Ty:= []
def F (x:ASs aS) (y:Bs bS):Brn Res:=brn (r x.1 x.2.1)
theorem good (x:ASs aS) (y:Bs bS) (h:(F x y).res.1=true):Good Tryz.prog 94 (ASs.mk aS x) (Bs.mk bS y) (F x y).res.2:=
 fP hE0 (ay _) Tryz.func94 ok aC cB (run x.1 x.2.1) (rel x.1 x.2.1) h
def ent:Ent Tryz.prog:=⟨94,shF aS bS F,bM good⟩
def ro:(List Int)→Int→Bool×X:=Classical.choose (⟨r,rfl⟩:∃ q:(List Int)→Int→Bool×X,q=r)
theorem gB:ro=r:=Classical.choose_spec (⟨r,rfl⟩:∃ q:(List Int)→Int→Bool×X,q=r)
def FO (x:ASs aS) (y:Bs bS):Brn Res:=brn (ro x.1 x.2.1)
theorem jN:FO=F:=by unfold FO F; rw [gB]
def nO:Ent Tryz.prog:=⟨94,shF aS bS FO,bM (by rw [jN]; exact good)⟩
end gQ
namespace dK
abbrev X:Type:=Int
def res (x:Int):Res:=⟨[.val ⟨.int .i64,x⟩],[],[]⟩
abbrev sh0:List (Nat×Sh):= [(0,.p (.int .i64)),(2,.p (.int .i64)),(4,.pb 500000 (.arr 4 (.int .u64)) []),(6,.p (.int .i64)),(7,.p (.int .i64)),(8,.p (.int .i64))]
abbrev bx0:List (Nat×Ty):= [(500000,.arr 4 (.int .u64))]
abbrev aY:List (Nat×Ty):= [(500000,.arr 4 (.int .u64))]
abbrev aX:List (Nat×Sh):= []
abbrev aZ:List (Nat×Ty):= []
abbrev bX:List (Nat×Ty):= []
abbrev X0:Type:=Int×Int×Unit×Int×Int×Int×Unit
abbrev Y0:Type:=(List Int)×Unit
abbrev U0:Type:=Unit
abbrev V0:Type:=Unit
def g0 {Z:Type} (rq:Bool→Z→Z) (kn:X0→Y0→Z) (ke:Nat→X0→Y0→Z) (kr:U0→V0→Z) (x:X0) (y:Y0):Z:=
lt (ile 0 x.2.2.2.2.2.1) fun v1771=>
bif v1771 then
lt (dU.ro x.2.2.2.2.1 x.2.2.2.2.1 x.2.1) fun w1780=>
rq w1780.1<|
lt (gQ.ro y.1 x.2.2.2.2.2.1) fun w1786=>
rq w1786.1<|
lt (w1786.2== 1) fun (v1787:Bool)=>
bif v1787 then
lt (dU.ro w1780.2 x.1 x.2.1) fun w1788=>
rq w1788.1<|
lt (IntKind.i64.wrap (x.2.2.2.2.2.1 - 1)) fun v1789=>
kn (x.1,x.2.1,(),x.2.2.2.1,w1788.2,v1789,()) (y.1,())
else
lt (IntKind.i64.wrap (x.2.2.2.2.2.1 - 1)) fun v1790=>
kn (x.1,x.2.1,(),x.2.2.2.1,w1780.2,v1790,()) (y.1,())
else
ke 0 (x.1,x.2.1,(),x.2.2.2.1,x.2.2.2.2.1,x.2.2.2.2.2.1,()) (y.1,())
def fu0 (x:X0) (y:Y0):Nat:=(x.2.2.2.2.2.1 - (0:Int)+1).toNat+1
def l0 (x:X0) (y:Y0):Bool×Nat×X0×Y0×U0×V0:=rounds (fun rq kn ke kr x y=>g0 rq kn ke kr x y) () () (fu0 x y) x y
def g {Z:Type} (rq:Bool→Z→Z) (rt:X→Z) (a:Int) (e:(List Int)) (m:Int):Z:=
lt ((1:Int).tmod m) fun (v1767:Int)=>
rq (!ieq m 0)<|
lt (bD.r e) fun w1768=>
rq w1768.1<|
lt (IntKind.i64.wrap (w1768.2 - 1)) fun v1769=>
lt (dK.l0 (a,m,(),0,v1767,v1769,()) (e,())) fun w1791=>
rq w1791.1<|
rt w1791.2.2.1.2.2.2.2.1
def r (a:Int) (e:(List Int)) (m:Int):Bool×X:=g chk (fun x=>(true,x)) a e m
def D:aH:=Dof (P:=Tryz.prog) [bD.ent,dU.nO,gQ.nO]
abbrev lf0:=dw (R:=Res) [1] (rounds (fun rq kn ke kr x y=>g0 rq kn ke kr x y) () ()) fu0
def tab:List (Nat×LE Res):= [(4,.typed (eY 31 sh0 bx0 aY aX aZ (lf0)))]
theorem bV:Nonempty (Told E0 D tab Tryz.f61.ntmps (aG (codeOf Tryz.f61) 0) 31 sh0 bx0 aY aX aZ lf0):=fH (sh:=sh0) (bx:=bx0) (ord:=aY) (shR:=aX) (bxR:=aZ) bX (by kernel_rfl) (by kernel_rfl) (by kernel_rfl) [1] _ _ _ @g0 (fun _ _ _ _ _=>by kernel_rfl) (by
  intro _ _ _ _ _ _ _ h i k x y
  simp only [g0]
  with_reducible repeat (first|(apply J.lt; intro _)|apply J.rq|apply J.bif|exact h _ _|exact i _ (by decide) _ _|exact k (by decide) _ _))
theorem bW:fQ E0 D tab Tryz.f61.ntmps (codeOf Tryz.f61):=bT (bs:= [aG (codeOf Tryz.f61) 0]) (by kernel_rfl) (aF (bP (by kernel_rfl) (bV)) aO)
abbrev aS:List AS:= [.one (.val (.int .i64)),.one (.val (.arr 4 (.int .u64))),.one (.val (.int .i64))]
abbrev bS:List Ty:= []
def ent:Ent Tryz.prog:=bH (D:=D) (tab:=tab) hE0 (ay _) [true] Tryz.func61 (by kernel_rfl) bW aS bS res (fun x y=>r x.1 x.2.1 x.2.2.1) (fun x y=>g (fun c z=>req c z) (fun x=>some (res x)) x.1 x.2.1 x.2.2.1) (fun _ _=>by kernel_rfl) (by
 intro x y
 show J _ (g chk (fun x=>(true,x)) x.1 x.2.1 x.2.2.1) (g (fun c z=>req c z) (fun x=>some (res x)) x.1 x.2.1 x.2.2.1)
 unfold g
 with_reducible repeat (first|(apply J.lt; intro _)|apply J.rq|apply J.bif|exact J.rt rfl))
end dK
namespace bQ
abbrev X:Type:=Int
def res (x:Int):Res:=⟨[.val ⟨.int .i64,x⟩],[],[]⟩
def brn (w:Bool×X):Brn Res:= .one w.1 (res w.2)
theorem cB (w:Bool×X):(brn w).res=(w.1,res w.2):=rfl
def g {Z:Type} (rq:Bool→Z→Z) (rt:X→Z) (s:aK) (a:Int) (e:(List Int)):Z:=
lt (dK.r a e s.1) fun w1792=>
rq w1792.1<|
rt w1792.2
def r (s:aK) (a:Int) (e:(List Int)):Bool×X:=g chk (fun x=>(true,x)) s a e
def D:aH:=Dof (P:=Tryz.prog) [dK.ent]
def tab:List (Nat×LE Res):= []
theorem run (s:aK) (a:Int) (e:(List Int)):gL E0 [true] D (iG E0 D tab 9) Tryz.f32 (codeOf Tryz.f32) [.val ⟨bB,s⟩,.val ⟨.int .i64,a⟩,.val ⟨.arr 4 (.int .u64),e⟩] []=g (fun c z=>req c z) (fun x=>some (res x)) s a e:=by kernel_rfl
theorem rel (s:aK) (a:Int) (e:(List Int)):J (fun w z=>z=some (res w)) (g chk (fun x=>(true,x)) s a e) (g (fun c z=>req c z) (fun x=>some (res x)) s a e):=by
 unfold g
 with_reducible repeat (first|(apply J.lt; intro _)|apply J.rq|apply J.bif|exact J.rt rfl)
theorem ok:nA Tryz.f32=true:=by kernel_rfl
abbrev aS:List AS:= [.one (.val bB),.one (.val (.int .i64)),.one (.val (.arr 4 (.int .u64)))]
abbrev bS:List Ty:= []
def F (x:ASs aS) (y:Bs bS):Brn Res:=brn (r x.1 x.2.1 x.2.2.1)
theorem good (x:ASs aS) (y:Bs bS) (h:(F x y).res.1=true):Good Tryz.prog 32 (ASs.mk aS x) (Bs.mk bS y) (F x y).res.2:=
 fP hE0 (ay _) Tryz.func32 ok aC cB (run x.1 x.2.1 x.2.2.1) (rel x.1 x.2.1 x.2.2.1) h
def ent:Ent Tryz.prog:=⟨32,shF aS bS F,bM good⟩
def ro:aK→Int→(List Int)→Bool×X:=Classical.choose (⟨r,rfl⟩:∃ q:aK→Int→(List Int)→Bool×X,q=r)
theorem gB:ro=r:=Classical.choose_spec (⟨r,rfl⟩:∃ q:aK→Int→(List Int)→Bool×X,q=r)
def FO (x:ASs aS) (y:Bs bS):Brn Res:=brn (ro x.1 x.2.1 x.2.2.1)
theorem jN:FO=F:=by unfold FO F; rw [gB]
def nO:Ent Tryz.prog:=⟨32,shF aS bS FO,bM (by rw [jN]; exact good)⟩
end bQ
namespace eX
abbrev X:Type:=Bool
def res (x:Bool):Res:=⟨[.val ⟨.bool,x⟩],[],[]⟩
def brn (w:Bool×X):Brn Res:= .one w.1 (res w.2)
theorem cB (w:Bool×X):(brn w).res=(w.1,res w.2):=rfl
def g {Z:Type} (rq:Bool→Z→Z) (rt:X→Z):Z:=
lt (cu.ro 0) fun w1173=>
rq w1173.1<|
lt (bU.ro 5) fun w1208=>
rq w1208.1<|
lt (bU.ro 2) fun w1209=>
rq w1209.1<|
lt (ic.ro w1173.2.1 [w1208.2,w1209.2] 2) fun w1299=>
rq w1299.1<|
lt (!w1173.2.2.2) fun (v1300:Bool)=>
bif v1300 then
rt false
else
lt (w1299.2.2 != 0) fun (v1301:Bool)=>
bif v1301 then
rt false
else
lt (w1299.2.1.length:Int) fun (v1302:Int)=>
lt (v1302 != 2) fun (v1303:Bool)=>
bif v1303 then
rt false
else
lt (w1299.2.1.getD 0 [0,0,0,0]) fun (v1304:(List Int))=>
rq (ilt (0:Int) (w1299.2.1.length:Int))<|
lt (bU.ro 11) fun w1305=>
rq w1305.1<|
lt (dN.ro w1173.2.1 v1304 [(3,(w1305.2,()))]) fun w1694=>
rq w1694.1<|
lt (bU.ro 11) fun w1695=>
rq w1695.1<|
lt (bZ.ro w1173.2.1 w1299.2.1 (3,(w1695.2,()))) fun w1747=>
rq w1747.1<|
bif w1747.2 then
lt (bU.ro 12) fun w1748=>
rq w1748.1<|
lt (bZ.ro w1173.2.1 w1299.2.1 (3,(w1748.2,()))) fun w1749=>
rq w1749.1<|
lt (!w1749.2) fun (v1750:Bool)=>
bif v1750 then
lt (cO.ro w1694.2.1 w1299.2.1) fun w1763=>
rq w1763.1<|
bif w1763.2 then
lt (w1694.2.2== 0) fun (v1764:Bool)=>
bif v1764 then
lt (ig.ro w1173.2.1 w1299.2.1 0) fun w1765=>
rq w1765.1<|
lt (bU.ro 5) fun w1766=>
rq w1766.1<|
lt (bQ.ro w1173.2.2.1 w1173.2.2.1.2.2.1 w1766.2) fun w1793=>
rq w1793.1<|
lt (bU.ro w1793.2) fun w1794=>
rq w1794.1<|
lt (ieq (w1765.2.getD 0 0) (w1794.2.getD 0 0)&&(ieq (w1765.2.getD 1 0) (w1794.2.getD 1 0)&&(ieq (w1765.2.getD 2 0) (w1794.2.getD 2 0)&&(ieq (w1765.2.getD 3 0) (w1794.2.getD 3 0)&&true)))) fun v1795=>
bif v1795 then
lt (gu.ro w1173.2.1 w1299.2.1) fun w1796=>
rq w1796.1<|
rt w1796.2
else
rt false
else
rt false
else
rt false
else
rt false
else
rt false
def r:Bool×X:=g chk (fun x=>(true,x))
def D:aH:=Dof (P:=Tryz.prog) [cu.nO,bU.nO,ic.nO,dN.nO,bZ.nO,cO.nO,ig.nO,bQ.nO,gu.nO]
def tab:List (Nat×LE Res):= []
theorem run:gL E0 [true] D (iG E0 D tab 9) Tryz.f9 (codeOf Tryz.f9) [] []=g (fun c z=>req c z) (fun x=>some (res x)):=by kernel_rfl
theorem rel:J (fun w z=>z=some (res w)) (g chk (fun x=>(true,x))) (g (fun c z=>req c z) (fun x=>some (res x))):=by
 unfold g
 with_reducible repeat (first|(apply J.lt; intro _)|apply J.rq|apply J.bif|exact J.rt rfl)
theorem ok:nA Tryz.f9=true:=by kernel_rfl
abbrev aS:List AS:= []
abbrev bS:List Ty:= []
def F (_:ASs aS) (_:Bs bS):Brn Res:=brn r
theorem good (x:ASs aS) (y:Bs bS) (h:(F x y).res.1=true):Good Tryz.prog 9 (ASs.mk aS x) (Bs.mk bS y) (F x y).res.2:=
 fP hE0 (ay _) Tryz.func9 ok aC cB (run) (rel) h
def ent:Ent Tryz.prog:=⟨9,shF aS bS F,bM good⟩
def ro:Bool×X:=Classical.choose (⟨r,rfl⟩:∃ q:Bool×X,q=r)
theorem gB:ro=r:=Classical.choose_spec (⟨r,rfl⟩:∃ q:Bool×X,q=r)
def FO (_:ASs aS) (_:Bs bS):Brn Res:=brn ro
theorem jN:FO=F:=by unfold FO F; rw [gB]
def nO:Ent Tryz.prog:=⟨9,shF aS bS FO,bM (by rw [jN]; exact good)⟩
end eX
namespace dX
abbrev X:Type:=Bool
def res (x:Bool):Res:=⟨[.val ⟨.bool,x⟩],[],[]⟩
def g {Z:Type} (rq:Bool→Z→Z) (rt:X→Z) (s:aK) (a:(List Int)):Z:=
lt (aW.r a) fun w1806=>
rq w1806.1<|
bif w1806.2.2 then
lt (ilt 0 w1806.2.1) fun v1807=>
bif v1807 then
lt (ilt w1806.2.1 s.1) fun v1808=>
bif v1808 then
lt (aM.r s.2.1) fun w1809=>
rq w1809.1<|
lt (bQ.r s w1806.2.1 w1809.2) fun w1810=>
rq w1810.1<|
lt (w1810.2== 1) fun (v1811:Bool)=>
rt v1811
else
rt false
else
rt false
else
rt false
def r (s:aK) (a:(List Int)):Bool×X:=g chk (fun x=>(true,x)) s a
def D:aH:=Dof (P:=Tryz.prog) [aW.ent,aM.ent,bQ.ent]
def tab:List (Nat×LE Res):= []
abbrev aS:List AS:= [.one (.val bB),.one (.val (.arr 4 (.int .u64)))]
abbrev bS:List Ty:= []
def ent:Ent Tryz.prog:=bH (D:=D) (tab:=tab) hE0 (ay _) [true] Tryz.func24 (by kernel_rfl) aC aS bS res (fun x y=>r x.1 x.2.1) (fun x y=>g (fun c z=>req c z) (fun x=>some (res x)) x.1 x.2.1) (fun _ _=>by kernel_rfl) (by
 intro x y
 show J _ (g chk (fun x=>(true,x)) x.1 x.2.1) (g (fun c z=>req c z) (fun x=>some (res x)) x.1 x.2.1)
 unfold g
 with_reducible repeat (first|(apply J.lt; intro _)|apply J.rq|apply J.bif|exact J.rt rfl))
end dX
namespace aT
abbrev X:Type:=Bool
def res (x:Bool):Res:=⟨[.val ⟨.bool,x⟩],[],[]⟩
abbrev sh0:List (Nat×Sh):= [(1,.p (.sl (.arr 4 (.int .u64)))),(2,.pb 500000 bB []),(4,.p .bool),(5,.p (.int .i64))]
abbrev bx0:List (Nat×Ty):= [(500000,bB)]
abbrev aY:List (Nat×Ty):= [(500000,bB)]
abbrev aX:List (Nat×Sh):= [(4,.p .bool)]
abbrev aZ:List (Nat×Ty):= []
abbrev bX:List (Nat×Ty):= []
abbrev X0:Type:=(List (List Int))×Unit×Bool×Int×Unit
abbrev Y0:Type:=aK×Unit
abbrev U0:Type:=Bool×Unit
abbrev V0:Type:=Unit
def g0 {Z:Type} (rq:Bool→Z→Z) (kn:X0→Y0→Z) (ke:Nat→X0→Y0→Z) (kr:U0→V0→Z) (x:X0) (y:Y0):Z:=
lt (x.1.length:Int) fun (v1803:Int)=>
lt (ilt x.2.2.2.1 v1803) fun v1804=>
bif v1804 then
lt (x.1.getD x.2.2.2.1.toNat [0,0,0,0]) fun (v1805:(List Int))=>
rq (ile (0:Int) x.2.2.2.1&&ilt x.2.2.2.1 (x.1.length:Int))<|
lt (dX.r y.1 v1805) fun w1812=>
rq w1812.1<|
lt (!w1812.2) fun (v1813:Bool)=>
bif v1813 then
kr (false,()) ()
else
lt (IntKind.i64.wrap (x.2.2.2.1+1)) fun v1814=>
kn (x.1,(),x.2.2.1,v1814,()) (y.1,())
else
ke 0 (x.1,(),x.2.2.1,x.2.2.2.1,()) (y.1,())
def fu0 (x:X0) (y:Y0):Nat:=((x.1.length:Int) - x.2.2.2.1).toNat+1
def l0 (x:X0) (y:Y0):Bool×Nat×X0×Y0×U0×V0:=rounds (fun rq kn ke kr x y=>g0 rq kn ke kr x y) (false,()) () (fu0 x y) x y
def g {Z:Type} (rq:Bool→Z→Z) (rt:X→Z) (s:aK) (c:(List (List Int))):Z:=
lt (aT.l0 (c,(),false,0,()) (s,())) fun w1815=>
rq w1815.1<|
bif Nat.beq w1815.2.1 0 then
rt w1815.2.2.2.2.1.1
else
lt (w1815.2.2.1.1.length:Int) fun (v1816:Int)=>
lt (ile 1 v1816) fun v1817=>
bif v1817 then
lt (w1815.2.2.1.1.length:Int) fun (v1818:Int)=>
lt (ile v1818 7) fun v1819=>
rt v1819
else
rt false
def r (s:aK) (c:(List (List Int))):Bool×X:=g chk (fun x=>(true,x)) s c
def D:aH:=Dof (P:=Tryz.prog) [dX.ent]
abbrev lf0:=dw (R:=Res) [0,1] (rounds (fun rq kn ke kr x y=>g0 rq kn ke kr x y) (false,()) ()) fu0
def tab:List (Nat×LE Res):= [(3,.typed (eY 27 sh0 bx0 aY aX aZ (lf0)))]
theorem bV:Nonempty (Told E0 D tab Tryz.f15.ntmps (aG (codeOf Tryz.f15) 0) 27 sh0 bx0 aY aX aZ lf0):=fH (sh:=sh0) (bx:=bx0) (ord:=aY) (shR:=aX) (bxR:=aZ) bX (by kernel_rfl) (by kernel_rfl) (by kernel_rfl) [0,1] _ _ _ @g0 (fun _ _ _ _ _=>by kernel_rfl) (by
  intro _ _ _ _ _ _ _ h i k x y
  simp only [g0]
  with_reducible repeat (first|(apply J.lt; intro _)|apply J.rq|apply J.bif|exact h _ _|exact i _ (by decide) _ _|exact k (by decide) _ _))
theorem bW:fQ E0 D tab Tryz.f15.ntmps (codeOf Tryz.f15):=bT (bs:= [aG (codeOf Tryz.f15) 0]) (by kernel_rfl) (aF (bP (by kernel_rfl) (bV)) aO)
abbrev aS:List AS:= [.one (.val bB),.one (.val (.sl (.arr 4 (.int .u64))))]
abbrev bS:List Ty:= []
def ent:Ent Tryz.prog:=bH (D:=D) (tab:=tab) hE0 (ay _) [true] Tryz.func15 (by kernel_rfl) bW aS bS res (fun x y=>r x.1 x.2.1) (fun x y=>g (fun c z=>req c z) (fun x=>some (res x)) x.1 x.2.1) (fun _ _=>by kernel_rfl) (by
 intro x y
 show J _ (g chk (fun x=>(true,x)) x.1 x.2.1) (g (fun c z=>req c z) (fun x=>some (res x)) x.1 x.2.1)
 unfold g
 with_reducible repeat (first|(apply J.lt; intro _)|apply J.rq|apply J.bif|exact J.rt rfl))
end aT
namespace dP
abbrev X:Type:=(List Int)
def res (x:(List Int)):Res:=⟨[.val ⟨.arr 32 (.int .i64),x⟩],[],[]⟩
abbrev sh0:List (Nat×Sh):= [(2,.pb 500000 (.arr 4 (.int .u64)) []),(3,.pb 500001 (.arr 4 (.int .u64)) []),(4,.pb 500002 (.arr 32 (.int .i64)) []),(5,.pb 500003 (.arr 32 (.int .i64)) []),(6,.p (.int .i64))]
abbrev bx0:List (Nat×Ty):= [(500000,.arr 4 (.int .u64)),(500001,.arr 4 (.int .u64)),(500002,.arr 32 (.int .i64)),(500003,.arr 32 (.int .i64))]
abbrev aY:List (Nat×Ty):= [(500000,.arr 4 (.int .u64)),(500001,.arr 4 (.int .u64)),(500002,.arr 32 (.int .i64)),(500003,.arr 32 (.int .i64))]
abbrev aX:List (Nat×Sh):= []
abbrev aZ:List (Nat×Ty):= []
abbrev bX:List (Nat×Ty):= []
abbrev X0:Type:=Unit×Unit×Unit×Unit×Int×Unit
abbrev Y0:Type:=(List Int)×(List Int)×(List Int)×(List Int)×Unit
abbrev U0:Type:=Unit
abbrev V0:Type:=Unit
def g0 {Z:Type} (rq:Bool→Z→Z) (kn:X0→Y0→Z) (ke:Nat→X0→Y0→Z) (kr:U0→V0→Z) (x:X0) (y:Y0):Z:=
lt (ilt x.2.2.2.2.1 16) fun v1925=>
bif v1925 then
lt (IntKind.i64.wrap (x.2.2.2.2.1.tdiv 4)) fun v1926=>
rq (ile (0:Int) v1926&&ilt v1926 4)<|
lt (y.1.getD v1926.toNat 0) fun (v1927:Int)=>
lt (x.2.2.2.2.1.tmod 4) fun (v1928:Int)=>
lt (IntKind.i64.wrap ((16:Int)*v1928)) fun v1929=>
lt (v1927.fdiv (2^(min v1929.toNat 64))) fun (v1930:Int)=>
rq (!ilt v1929 0)<|
lt (eU .u64 (· &&& ·) v1930 (65535:Int)) fun v1931=>
lt (IntKind.i64.wrap (v1931)) fun v1932=>
rq (ile (0:Int) x.2.2.2.2.1&&ilt x.2.2.2.2.1 32)<|
lt (y.2.2.2.1.set x.2.2.2.2.1.toNat v1932) fun (v1933:(List Int))=>
lt (IntKind.i64.wrap ((16:Int)+x.2.2.2.2.1)) fun v1934=>
lt (IntKind.i64.wrap (x.2.2.2.2.1.tdiv 4)) fun v1935=>
rq (ile (0:Int) v1935&&ilt v1935 4)<|
lt (y.2.1.getD v1935.toNat 0) fun (v1936:Int)=>
lt (x.2.2.2.2.1.tmod 4) fun (v1937:Int)=>
lt (IntKind.i64.wrap ((16:Int)*v1937)) fun v1938=>
lt (v1936.fdiv (2^(min v1938.toNat 64))) fun (v1939:Int)=>
rq (!ilt v1938 0)<|
lt (eU .u64 (· &&& ·) v1939 (65535:Int)) fun v1940=>
lt (IntKind.i64.wrap (v1940)) fun v1941=>
rq (ile (0:Int) v1934&&ilt v1934 32)<|
lt (v1933.set v1934.toNat v1941) fun (v1942:(List Int))=>
lt (IntKind.i64.wrap (x.2.2.2.2.1+1)) fun v1943=>
kn ((),(),(),(),v1943,()) (y.1,y.2.1,y.2.2.1,v1942,())
else
ke 0 ((),(),(),(),x.2.2.2.2.1,()) (y.1,y.2.1,y.2.2.1,y.2.2.2.1,())
def fu0 (x:X0) (y:Y0):Nat:=((16:Int) - x.2.2.2.2.1).toNat+1
def l0 (x:X0) (y:Y0):Bool×Nat×X0×Y0×U0×V0:=rounds (fun rq kn ke kr x y=>g0 rq kn ke kr x y) () () (fu0 x y) x y
def g {Z:Type} (rq:Bool→Z→Z) (rt:X→Z) (low:(List Int)) (high:(List Int)):Z:=
lt (List.replicate 32 0) fun (v1832:(List Int))=>
lt (List.replicate 32 0) fun (v1833:(List Int))=>
lt (List.replicate 32 0) fun (v1834:(List Int))=>
lt (dP.l0 ((),(),(),(),0,()) (low,high,v1832,v1833,())) fun w1944=>
rq w1944.1<|
rt w1944.2.2.2.1.2.2.2.1
def r (low:(List Int)) (high:(List Int)):Bool×X:=g chk (fun x=>(true,x)) low high
def D:aH:=Dof (P:=Tryz.prog) []
abbrev lf0:=dw (R:=Res) [1] (rounds (fun rq kn ke kr x y=>g0 rq kn ke kr x y) () ()) fu0
def tab:List (Nat×LE Res):= [(4,.typed (eY 38 sh0 bx0 aY aX aZ (lf0)))]
theorem bV:Nonempty (Told E0 D tab Tryz.f96.ntmps (aG (codeOf Tryz.f96) 0) 38 sh0 bx0 aY aX aZ lf0):=fH (sh:=sh0) (bx:=bx0) (ord:=aY) (shR:=aX) (bxR:=aZ) bX (by kernel_rfl) (by kernel_rfl) (by kernel_rfl) [1] _ _ _ @g0 (fun _ _ _ _ _=>by kernel_rfl) (by
  intro _ _ _ _ _ _ _ h i k x y
  simp only [g0]
  with_reducible repeat (first|(apply J.lt; intro _)|apply J.rq|apply J.bif|exact h _ _|exact i _ (by decide) _ _|exact k (by decide) _ _))
theorem bW:fQ E0 D tab Tryz.f96.ntmps (codeOf Tryz.f96):=bT (bs:= [aG (codeOf Tryz.f96) 0]) (by kernel_rfl) (aF (bP (by kernel_rfl) (bV)) aO)
abbrev aS:List AS:= [.one (.val (.arr 4 (.int .u64))),.one (.val (.arr 4 (.int .u64)))]
abbrev bS:List Ty:= []
def ent:Ent Tryz.prog:=bH (D:=D) (tab:=tab) hE0 (ay _) [true] Tryz.func96 (by kernel_rfl) bW aS bS res (fun x y=>r x.1 x.2.1) (fun x y=>g (fun c z=>req c z) (fun x=>some (res x)) x.1 x.2.1) (fun _ _=>by kernel_rfl) (by
 intro x y
 show J _ (g chk (fun x=>(true,x)) x.1 x.2.1) (g (fun c z=>req c z) (fun x=>some (res x)) x.1 x.2.1)
 unfold g
 with_reducible repeat (first|(apply J.lt; intro _)|apply J.rq|apply J.bif|exact J.rt rfl))
end dP
namespace di
abbrev X:Type:=(List Int)
def res (x:(List Int)):Res:=⟨[.val ⟨.arr 32 (.int .i64),x⟩],[],[]⟩
abbrev sh0:List (Nat×Sh):= [(2,.pb 500000 (.arr 32 (.int .i64)) []),(4,.pb 500001 (.arr 32 (.int .i64)) []),(5,.pb 500002 (.arr 32 (.int .i64)) []),(6,.p (.int .i64)),(7,.p (.int .i64))]
abbrev bx0:List (Nat×Ty):= [(500000,.arr 32 (.int .i64)),(500001,.arr 32 (.int .i64)),(500002,.arr 32 (.int .i64))]
abbrev aY:List (Nat×Ty):= [(500000,.arr 32 (.int .i64)),(500001,.arr 32 (.int .i64)),(500002,.arr 32 (.int .i64))]
abbrev aX:List (Nat×Sh):= []
abbrev aZ:List (Nat×Ty):= []
abbrev bX:List (Nat×Ty):= []
abbrev X0:Type:=Unit×Unit×Unit×Int×Int×Unit
abbrev Y0:Type:=(List Int)×(List Int)×(List Int)×Unit
abbrev U0:Type:=Unit
abbrev V0:Type:=Unit
def g0 {Z:Type} (rq:Bool→Z→Z) (kn:X0→Y0→Z) (ke:Nat→X0→Y0→Z) (kr:U0→V0→Z) (x:X0) (y:Y0):Z:=
lt (ilt x.2.2.2.2.1 32) fun v2013=>
bif v2013 then
rq (ile (0:Int) x.2.2.2.2.1&&ilt x.2.2.2.2.1 32)<|
lt (y.1.getD x.2.2.2.2.1.toNat 0) fun (v2014:Int)=>
lt (IntKind.i64.wrap ((2:Int)*v2014)) fun v2015=>
lt (IntKind.i64.wrap (v2015+x.2.2.2.1)) fun v2016=>
lt (eU .i64 (· &&& ·) v2016 (65535:Int)) fun v2017=>
rq (ile (0:Int) x.2.2.2.2.1&&ilt x.2.2.2.2.1 32)<|
lt (y.2.2.1.set x.2.2.2.2.1.toNat v2017) fun (v2018:(List Int))=>
lt (v2016.fdiv (2^16)) fun (v2019:Int)=>
lt (IntKind.i64.wrap (x.2.2.2.2.1+1)) fun v2020=>
kn ((),(),(),v2019,v2020,()) (y.1,y.2.1,v2018,())
else
ke 0 ((),(),(),x.2.2.2.1,x.2.2.2.2.1,()) (y.1,y.2.1,y.2.2.1,())
def fu0 (x:X0) (y:Y0):Nat:=((32:Int) - x.2.2.2.2.1).toNat+1
def l0 (x:X0) (y:Y0):Bool×Nat×X0×Y0×U0×V0:=rounds (fun rq kn ke kr x y=>g0 rq kn ke kr x y) () () (fu0 x y) x y
def g {Z:Type} (rq:Bool→Z→Z) (rt:X→Z) (a:(List Int)) (one:Int):Z:=
lt (List.replicate 32 0) fun (v1956:(List Int))=>
lt (List.replicate 32 0) fun (v1957:(List Int))=>
lt (List.replicate 32 0) fun (v1958:(List Int))=>
lt (di.l0 ((),(),(),one,0,()) (a,v1956,v1957,())) fun w2021=>
rq w2021.1<|
rt w2021.2.2.2.1.2.2.1
def r (a:(List Int)) (one:Int):Bool×X:=g chk (fun x=>(true,x)) a one
def D:aH:=Dof (P:=Tryz.prog) []
abbrev lf0:=dw (R:=Res) [1] (rounds (fun rq kn ke kr x y=>g0 rq kn ke kr x y) () ()) fu0
def tab:List (Nat×LE Res):= [(5,.typed (eY 28 sh0 bx0 aY aX aZ (lf0)))]
theorem bV:Nonempty (Told E0 D tab Tryz.f127.ntmps (aG (codeOf Tryz.f127) 0) 28 sh0 bx0 aY aX aZ lf0):=fH (sh:=sh0) (bx:=bx0) (ord:=aY) (shR:=aX) (bxR:=aZ) bX (by kernel_rfl) (by kernel_rfl) (by kernel_rfl) [1] _ _ _ @g0 (fun _ _ _ _ _=>by kernel_rfl) (by
  intro _ _ _ _ _ _ _ h i k x y
  simp only [g0]
  with_reducible repeat (first|(apply J.lt; intro _)|apply J.rq|apply J.bif|exact h _ _|exact i _ (by decide) _ _|exact k (by decide) _ _))
theorem bW:fQ E0 D tab Tryz.f127.ntmps (codeOf Tryz.f127):=bT (bs:= [aG (codeOf Tryz.f127) 0]) (by kernel_rfl) (aF (bP (by kernel_rfl) (bV)) aO)
abbrev aS:List AS:= [.one (.val (.arr 32 (.int .i64))),.one (.val (.int .i64))]
abbrev bS:List Ty:= []
def ent:Ent Tryz.prog:=bH (D:=D) (tab:=tab) hE0 (ay _) [true] Tryz.func127 (by kernel_rfl) bW aS bS res (fun x y=>r x.1 x.2.1) (fun x y=>g (fun c z=>req c z) (fun x=>some (res x)) x.1 x.2.1) (fun _ _=>by kernel_rfl) (by
 intro x y
 show J _ (g chk (fun x=>(true,x)) x.1 x.2.1) (g (fun c z=>req c z) (fun x=>some (res x)) x.1 x.2.1)
 unfold g
 with_reducible repeat (first|(apply J.lt; intro _)|apply J.rq|apply J.bif|exact J.rt rfl))
end di
namespace dL
abbrev X:Type:=Bool
def res (x:Bool):Res:=⟨[.val ⟨.bool,x⟩],[],[]⟩
abbrev sh0:List (Nat×Sh):= [(2,.pb 500000 (.arr 32 (.int .i64)) []),(3,.pb 500001 (.arr 32 (.int .i64)) []),(4,.p .bool),(5,.p (.int .i64))]
abbrev bx0:List (Nat×Ty):= [(500000,.arr 32 (.int .i64)),(500001,.arr 32 (.int .i64))]
abbrev aY:List (Nat×Ty):= [(500000,.arr 32 (.int .i64)),(500001,.arr 32 (.int .i64))]
abbrev aX:List (Nat×Sh):= [(4,.p .bool)]
abbrev aZ:List (Nat×Ty):= []
abbrev bX:List (Nat×Ty):= []
abbrev X0:Type:=Unit×Unit×Bool×Int×Unit
abbrev Y0:Type:=(List Int)×(List Int)×Unit
abbrev U0:Type:=Bool×Unit
abbrev V0:Type:=Unit
def g0 {Z:Type} (rq:Bool→Z→Z) (kn:X0→Y0→Z) (ke:Nat→X0→Y0→Z) (kr:U0→V0→Z) (x:X0) (y:Y0):Z:=
lt (ile 0 x.2.2.2.1) fun v2077=>
bif v2077 then
rq (ile (0:Int) x.2.2.2.1&&ilt x.2.2.2.1 32)<|
lt (y.1.getD x.2.2.2.1.toNat 0) fun (v2078:Int)=>
rq (ile (0:Int) x.2.2.2.1&&ilt x.2.2.2.1 32)<|
lt (y.2.1.getD x.2.2.2.1.toNat 0) fun (v2079:Int)=>
lt (v2078 != v2079) fun (v2080:Bool)=>
bif v2080 then
rq (ile (0:Int) x.2.2.2.1&&ilt x.2.2.2.1 32)<|
lt (y.1.getD x.2.2.2.1.toNat 0) fun (v2081:Int)=>
rq (ile (0:Int) x.2.2.2.1&&ilt x.2.2.2.1 32)<|
lt (y.2.1.getD x.2.2.2.1.toNat 0) fun (v2082:Int)=>
lt (ilt v2081 v2082) fun v2083=>
kr (v2083,()) ()
else
lt (IntKind.i64.wrap (x.2.2.2.1 - 1)) fun v2084=>
kn ((),(),x.2.2.1,v2084,()) (y.1,y.2.1,())
else
ke 0 ((),(),x.2.2.1,x.2.2.2.1,()) (y.1,y.2.1,())
def fu0 (x:X0) (y:Y0):Nat:=(x.2.2.2.1 - (0:Int)+1).toNat+1
def l0 (x:X0) (y:Y0):Bool×Nat×X0×Y0×U0×V0:=rounds (fun rq kn ke kr x y=>g0 rq kn ke kr x y) (false,()) () (fu0 x y) x y
def g {Z:Type} (rq:Bool→Z→Z) (rt:X→Z) (a:(List Int)) (b:(List Int)):Z:=
lt (dL.l0 ((),(),false,31,()) (a,b,())) fun w2085=>
rq w2085.1<|
bif Nat.beq w2085.2.1 0 then
rt w2085.2.2.2.2.1.1
else
rt false
def r (a:(List Int)) (b:(List Int)):Bool×X:=g chk (fun x=>(true,x)) a b
def D:aH:=Dof (P:=Tryz.prog) []
abbrev lf0:=dw (R:=Res) [0,1] (rounds (fun rq kn ke kr x y=>g0 rq kn ke kr x y) (false,()) ()) fu0
def tab:List (Nat×LE Res):= [(3,.typed (eY 24 sh0 bx0 aY aX aZ (lf0)))]
theorem bV:Nonempty (Told E0 D tab Tryz.f128.ntmps (aG (codeOf Tryz.f128) 0) 24 sh0 bx0 aY aX aZ lf0):=fH (sh:=sh0) (bx:=bx0) (ord:=aY) (shR:=aX) (bxR:=aZ) bX (by kernel_rfl) (by kernel_rfl) (by kernel_rfl) [0,1] _ _ _ @g0 (fun _ _ _ _ _=>by kernel_rfl) (by
  intro _ _ _ _ _ _ _ h i k x y
  simp only [g0]
  with_reducible repeat (first|(apply J.lt; intro _)|apply J.rq|apply J.bif|exact h _ _|exact i _ (by decide) _ _|exact k (by decide) _ _))
theorem bW:fQ E0 D tab Tryz.f128.ntmps (codeOf Tryz.f128):=bT (bs:= [aG (codeOf Tryz.f128) 0]) (by kernel_rfl) (aF (bP (by kernel_rfl) (bV)) aO)
abbrev aS:List AS:= [.one (.val (.arr 32 (.int .i64))),.one (.val (.arr 32 (.int .i64)))]
abbrev bS:List Ty:= []
def ent:Ent Tryz.prog:=bH (D:=D) (tab:=tab) hE0 (ay _) [true] Tryz.func128 (by kernel_rfl) bW aS bS res (fun x y=>r x.1 x.2.1) (fun x y=>g (fun c z=>req c z) (fun x=>some (res x)) x.1 x.2.1) (fun _ _=>by kernel_rfl) (by
 intro x y
 show J _ (g chk (fun x=>(true,x)) x.1 x.2.1) (g (fun c z=>req c z) (fun x=>some (res x)) x.1 x.2.1)
 unfold g
 with_reducible repeat (first|(apply J.lt; intro _)|apply J.rq|apply J.bif|exact J.rt rfl))
end dL
namespace dG
abbrev X:Type:=(List Int)
def res (x:(List Int)):Res:=⟨[.val ⟨.arr 32 (.int .i64),x⟩],[],[]⟩
abbrev sh0:List (Nat×Sh):= [(2,.pb 500000 (.arr 32 (.int .i64)) []),(3,.pb 500001 (.arr 32 (.int .i64)) []),(4,.pb 500002 (.arr 32 (.int .i64)) []),(5,.p (.int .i64)),(6,.pb 500003 (.arr 32 (.int .i64)) []),(7,.p (.int .i64))]
abbrev bx0:List (Nat×Ty):= [(500000,.arr 32 (.int .i64)),(500001,.arr 32 (.int .i64)),(500002,.arr 32 (.int .i64)),(500003,.arr 32 (.int .i64))]
abbrev aY:List (Nat×Ty):= [(500000,.arr 32 (.int .i64)),(500001,.arr 32 (.int .i64)),(500002,.arr 32 (.int .i64)),(500003,.arr 32 (.int .i64))]
abbrev aX:List (Nat×Sh):= []
abbrev aZ:List (Nat×Ty):= []
abbrev bX:List (Nat×Ty):= []
abbrev X0:Type:=Unit×Unit×Unit×Int×Unit×Int×Unit
abbrev Y0:Type:=(List Int)×(List Int)×(List Int)×(List Int)×Unit
abbrev U0:Type:=Unit
abbrev V0:Type:=Unit
def g0 {Z:Type} (rq:Bool→Z→Z) (kn:X0→Y0→Z) (ke:Nat→X0→Y0→Z) (kr:U0→V0→Z) (x:X0) (y:Y0):Z:=
lt (ilt x.2.2.2.2.2.1 32) fun v2154=>
bif v2154 then
rq (ile (0:Int) x.2.2.2.2.2.1&&ilt x.2.2.2.2.2.1 32)<|
lt (y.1.getD x.2.2.2.2.2.1.toNat 0) fun (v2155:Int)=>
rq (ile (0:Int) x.2.2.2.2.2.1&&ilt x.2.2.2.2.2.1 32)<|
lt (y.2.1.getD x.2.2.2.2.2.1.toNat 0) fun (v2156:Int)=>
lt (IntKind.i64.wrap (v2155 - v2156)) fun v2157=>
lt (IntKind.i64.wrap (v2157 - x.2.2.2.1)) fun v2158=>
lt (ilt v2158 0) fun v2159=>
bif v2159 then
lt (IntKind.i64.wrap (v2158+65536)) fun v2160=>
rq (ile (0:Int) x.2.2.2.2.2.1&&ilt x.2.2.2.2.2.1 32)<|
lt (y.2.2.2.1.set x.2.2.2.2.2.1.toNat v2160) fun (v2161:(List Int))=>
lt (IntKind.i64.wrap (x.2.2.2.2.2.1+1)) fun v2162=>
kn ((),(),(),1,(),v2162,()) (y.1,y.2.1,y.2.2.1,v2161,())
else
rq (ile (0:Int) x.2.2.2.2.2.1&&ilt x.2.2.2.2.2.1 32)<|
lt (y.2.2.2.1.set x.2.2.2.2.2.1.toNat v2158) fun (v2163:(List Int))=>
lt (IntKind.i64.wrap (x.2.2.2.2.2.1+1)) fun v2164=>
kn ((),(),(),0,(),v2164,()) (y.1,y.2.1,y.2.2.1,v2163,())
else
ke 0 ((),(),(),x.2.2.2.1,(),x.2.2.2.2.2.1,()) (y.1,y.2.1,y.2.2.1,y.2.2.2.1,())
def fu0 (x:X0) (y:Y0):Nat:=((32:Int) - x.2.2.2.2.2.1).toNat+1
def l0 (x:X0) (y:Y0):Bool×Nat×X0×Y0×U0×V0:=rounds (fun rq kn ke kr x y=>g0 rq kn ke kr x y) () () (fu0 x y) x y
def g {Z:Type} (rq:Bool→Z→Z) (rt:X→Z) (a:(List Int)) (b:(List Int)):Z:=
lt (List.replicate 32 0) fun (v2088:(List Int))=>
lt (List.replicate 32 0) fun (v2089:(List Int))=>
lt (List.replicate 32 0) fun (v2090:(List Int))=>
lt (dG.l0 ((),(),(),0,(),0,()) (a,b,v2088,v2089,())) fun w2165=>
rq w2165.1<|
rt w2165.2.2.2.1.2.2.2.1
def r (a:(List Int)) (b:(List Int)):Bool×X:=g chk (fun x=>(true,x)) a b
def D:aH:=Dof (P:=Tryz.prog) []
abbrev lf0:=dw (R:=Res) [1] (rounds (fun rq kn ke kr x y=>g0 rq kn ke kr x y) () ()) fu0
def tab:List (Nat×LE Res):= [(5,.typed (eY 31 sh0 bx0 aY aX aZ (lf0)))]
theorem bV:Nonempty (Told E0 D tab Tryz.f129.ntmps (aG (codeOf Tryz.f129) 0) 31 sh0 bx0 aY aX aZ lf0):=fH (sh:=sh0) (bx:=bx0) (ord:=aY) (shR:=aX) (bxR:=aZ) bX (by kernel_rfl) (by kernel_rfl) (by kernel_rfl) [1] _ _ _ @g0 (fun _ _ _ _ _=>by kernel_rfl) (by
  intro _ _ _ _ _ _ _ h i k x y
  simp only [g0]
  with_reducible repeat (first|(apply J.lt; intro _)|apply J.rq|apply J.bif|exact h _ _|exact i _ (by decide) _ _|exact k (by decide) _ _))
theorem bW:fQ E0 D tab Tryz.f129.ntmps (codeOf Tryz.f129):=bT (bs:= [aG (codeOf Tryz.f129) 0]) (by kernel_rfl) (aF (bP (by kernel_rfl) (bV)) aO)
abbrev aS:List AS:= [.one (.val (.arr 32 (.int .i64))),.one (.val (.arr 32 (.int .i64)))]
abbrev bS:List Ty:= []
def ent:Ent Tryz.prog:=bH (D:=D) (tab:=tab) hE0 (ay _) [true] Tryz.func129 (by kernel_rfl) bW aS bS res (fun x y=>r x.1 x.2.1) (fun x y=>g (fun c z=>req c z) (fun x=>some (res x)) x.1 x.2.1) (fun _ _=>by kernel_rfl) (by
 intro x y
 show J _ (g chk (fun x=>(true,x)) x.1 x.2.1) (g (fun c z=>req c z) (fun x=>some (res x)) x.1 x.2.1)
 unfold g
 with_reducible repeat (first|(apply J.lt; intro _)|apply J.rq|apply J.bif|exact J.rt rfl))
end dG
namespace aP
abbrev X:Type:=(List Int)×(List Int)
def res (x:(List Int)×(List Int)):Res:=⟨[.val ⟨.arr 32 (.int .i64),x.1⟩,.val ⟨.arr 32 (.int .i64),x.2⟩],[],[]⟩
abbrev sh0:List (Nat×Sh):= [(2,.pb 500000 (.arr 32 (.int .i64)) []),(3,.pb 500001 (.arr 32 (.int .i64)) []),(4,.pb 500002 (.arr 32 (.int .i64)) []),(5,.pb 500003 (.arr 32 (.int .i64)) []),(6,.pb 500004 (.arr 32 (.int .i64)) []),(7,.pb 500005 (.arr 32 (.int .i64)) []),(8,.p (.int .i64))]
abbrev bx0:List (Nat×Ty):= [(500000,.arr 32 (.int .i64)),(500001,.arr 32 (.int .i64)),(500002,.arr 32 (.int .i64)),(500003,.arr 32 (.int .i64)),(500004,.arr 32 (.int .i64)),(500005,.arr 32 (.int .i64))]
abbrev aY:List (Nat×Ty):= [(500000,.arr 32 (.int .i64)),(500001,.arr 32 (.int .i64)),(500002,.arr 32 (.int .i64)),(500003,.arr 32 (.int .i64)),(500004,.arr 32 (.int .i64)),(500005,.arr 32 (.int .i64))]
abbrev aX:List (Nat×Sh):= []
abbrev aZ:List (Nat×Ty):= []
abbrev bX:List (Nat×Ty):= []
abbrev X0:Type:=Unit×Unit×Unit×Unit×Unit×Unit×Int×Unit
abbrev Y0:Type:=(List Int)×(List Int)×(List Int)×(List Int)×(List Int)×(List Int)×Unit
abbrev U0:Type:=Unit
abbrev V0:Type:=Unit
def g0 {Z:Type} (rq:Bool→Z→Z) (kn:X0→Y0→Z) (ke:Nat→X0→Y0→Z) (kr:U0→V0→Z) (x:X0) (y:Y0):Z:=
lt (ile 0 x.2.2.2.2.2.2.1) fun v2250=>
bif v2250 then
lt (IntKind.i64.wrap (x.2.2.2.2.2.2.1.tdiv 16)) fun v2251=>
rq (ile (0:Int) v2251&&ilt v2251 32)<|
lt (y.1.getD v2251.toNat 0) fun (v2252:Int)=>
lt (x.2.2.2.2.2.2.1.tmod 16) fun (v2253:Int)=>
lt (v2252.fdiv (2^(min v2253.toNat 64))) fun (v2254:Int)=>
rq (!ilt v2253 0)<|
lt (eU .i64 (· &&& ·) v2254 (1:Int)) fun v2255=>
lt (di.r y.2.2.2.2.2.1 v2255) fun w2256=>
rq w2256.1<|
lt (dL.r w2256.2 y.2.1) fun w2257=>
rq w2257.1<|
lt (!w2257.2) fun (v2258:Bool)=>
bif v2258 then
lt (dG.r w2256.2 y.2.1) fun w2259=>
rq w2259.1<|
lt (IntKind.i64.wrap (x.2.2.2.2.2.2.1.tdiv 16)) fun v2260=>
lt (IntKind.i64.wrap (x.2.2.2.2.2.2.1.tdiv 16)) fun v2261=>
rq (ile (0:Int) v2261&&ilt v2261 32)<|
lt (y.2.2.2.2.1.getD v2261.toNat 0) fun (v2262:Int)=>
lt (x.2.2.2.2.2.2.1.tmod 16) fun (v2263:Int)=>
lt (IntKind.i64.wrap ((1:Int)*2^(min v2263.toNat 64))) fun v2264=>
rq (!ilt v2263 0)<|
lt (eU .i64 (· ||| ·) v2262 v2264) fun v2265=>
rq (ile (0:Int) v2260&&ilt v2260 32)<|
lt (y.2.2.2.2.1.set v2260.toNat v2265) fun (v2266:(List Int))=>
lt (IntKind.i64.wrap (x.2.2.2.2.2.2.1 - 1)) fun v2267=>
kn ((),(),(),(),(),(),v2267,()) (y.1,y.2.1,y.2.2.1,y.2.2.2.1,v2266,w2259.2,())
else
lt (IntKind.i64.wrap (x.2.2.2.2.2.2.1 - 1)) fun v2268=>
kn ((),(),(),(),(),(),v2268,()) (y.1,y.2.1,y.2.2.1,y.2.2.2.1,y.2.2.2.2.1,w2256.2,())
else
ke 0 ((),(),(),(),(),(),x.2.2.2.2.2.2.1,()) (y.1,y.2.1,y.2.2.1,y.2.2.2.1,y.2.2.2.2.1,y.2.2.2.2.2.1,())
def fu0 (x:X0) (y:Y0):Nat:=(x.2.2.2.2.2.2.1 - (0:Int)+1).toNat+1
def l0 (x:X0) (y:Y0):Bool×Nat×X0×Y0×U0×V0:=rounds (fun rq kn ke kr x y=>g0 rq kn ke kr x y) () () (fu0 x y) x y
def g {Z:Type} (rq:Bool→Z→Z) (rt:X→Z) (a:(List Int)) (m:(List Int)):Z:=
lt (List.replicate 32 0) fun (v1947:(List Int))=>
lt (List.replicate 32 0) fun (v1948:(List Int))=>
lt (List.replicate 32 0) fun (v1949:(List Int))=>
lt (List.replicate 32 0) fun (v1950:(List Int))=>
lt (List.replicate 32 0) fun (v1951:(List Int))=>
lt (List.replicate 32 0) fun (v1952:(List Int))=>
lt (aP.l0 ((),(),(),(),(),(),511,()) (a,m,v1947,v1948,v1949,v1950,())) fun w2269=>
rq w2269.1<|
rt (w2269.2.2.2.1.2.2.2.2.1,w2269.2.2.2.1.2.2.2.2.2.1)
def r (a:(List Int)) (m:(List Int)):Bool×X:=g chk (fun x=>(true,x)) a m
def D:aH:=Dof (P:=Tryz.prog) [di.ent,dL.ent,dG.ent]
abbrev lf0:=dw (R:=Res) [1] (rounds (fun rq kn ke kr x y=>g0 rq kn ke kr x y) () ()) fu0
def tab:List (Nat×LE Res):= [(4,.typed (eY 45 sh0 bx0 aY aX aZ (lf0)))]
theorem bV:Nonempty (Told E0 D tab Tryz.f95.ntmps (aG (codeOf Tryz.f95) 0) 45 sh0 bx0 aY aX aZ lf0):=fH (sh:=sh0) (bx:=bx0) (ord:=aY) (shR:=aX) (bxR:=aZ) bX (by kernel_rfl) (by kernel_rfl) (by kernel_rfl) [1] _ _ _ @g0 (fun _ _ _ _ _=>by kernel_rfl) (by
  intro _ _ _ _ _ _ _ h i k x y
  simp only [g0]
  with_reducible repeat (first|(apply J.lt; intro _)|apply J.rq|apply J.bif|exact h _ _|exact i _ (by decide) _ _|exact k (by decide) _ _))
theorem bW:fQ E0 D tab Tryz.f95.ntmps (codeOf Tryz.f95):=bT (bs:= [aG (codeOf Tryz.f95) 0]) (by kernel_rfl) (aF (bP (by kernel_rfl) (bV)) aO)
abbrev aS:List AS:= [.one (.val (.arr 32 (.int .i64))),.one (.val (.arr 32 (.int .i64)))]
abbrev bS:List Ty:= []
def ent:Ent Tryz.prog:=bH (D:=D) (tab:=tab) hE0 (ay _) [true,true] Tryz.func95 (by kernel_rfl) bW aS bS res (fun x y=>r x.1 x.2.1) (fun x y=>g (fun c z=>req c z) (fun x=>some (res x)) x.1 x.2.1) (fun _ _=>by kernel_rfl) (by
 intro x y
 show J _ (g chk (fun x=>(true,x)) x.1 x.2.1) (g (fun c z=>req c z) (fun x=>some (res x)) x.1 x.2.1)
 unfold g
 with_reducible repeat (first|(apply J.lt; intro _)|apply J.rq|apply J.bif|exact J.rt rfl))
end aP
namespace dH
abbrev X:Type:=(List Int)×(List Int)
def res (x:(List Int)×(List Int)):Res:=⟨[.val ⟨.arr 4 (.int .u64),x.1⟩,.val ⟨.arr 4 (.int .u64),x.2⟩],[],[]⟩
abbrev sh0:List (Nat×Sh):= [(1,.pb 500000 (.arr 32 (.int .i64)) []),(2,.pb 500001 (.arr 4 (.int .u64)) []),(3,.pb 500002 (.arr 4 (.int .u64)) []),(4,.pb 500003 (.arr 4 (.int .u64)) []),(5,.pb 500004 (.arr 4 (.int .u64)) []),(6,.p (.int .i64))]
abbrev bx0:List (Nat×Ty):= [(500000,.arr 32 (.int .i64)),(500001,.arr 4 (.int .u64)),(500002,.arr 4 (.int .u64)),(500003,.arr 4 (.int .u64)),(500004,.arr 4 (.int .u64))]
abbrev aY:List (Nat×Ty):= [(500000,.arr 32 (.int .i64)),(500001,.arr 4 (.int .u64)),(500002,.arr 4 (.int .u64)),(500003,.arr 4 (.int .u64)),(500004,.arr 4 (.int .u64))]
abbrev aX:List (Nat×Sh):= []
abbrev aZ:List (Nat×Ty):= []
abbrev bX:List (Nat×Ty):= []
abbrev X0:Type:=Unit×Unit×Unit×Unit×Unit×Int×Unit
abbrev Y0:Type:=(List Int)×(List Int)×(List Int)×(List Int)×(List Int)×Unit
abbrev U0:Type:=Unit
abbrev V0:Type:=Unit
def g0 {Z:Type} (rq:Bool→Z→Z) (kn:X0→Y0→Z) (ke:Nat→X0→Y0→Z) (kr:U0→V0→Z) (x:X0) (y:Y0):Z:=
lt (ilt x.2.2.2.2.2.1 16) fun v2345=>
bif v2345 then
lt (IntKind.i64.wrap (x.2.2.2.2.2.1.tdiv 4)) fun v2346=>
lt (IntKind.i64.wrap (x.2.2.2.2.2.1.tdiv 4)) fun v2347=>
rq (ile (0:Int) v2347&&ilt v2347 4)<|
lt (y.2.2.2.1.getD v2347.toNat 0) fun (v2348:Int)=>
rq (ile (0:Int) x.2.2.2.2.2.1&&ilt x.2.2.2.2.2.1 32)<|
lt (y.1.getD x.2.2.2.2.2.1.toNat 0) fun (v2349:Int)=>
lt (IntKind.u64.wrap (v2349)) fun v2350=>
lt (x.2.2.2.2.2.1.tmod 4) fun (v2351:Int)=>
lt (IntKind.i64.wrap ((16:Int)*v2351)) fun v2352=>
lt (IntKind.u64.wrap (v2350*2^(min v2352.toNat 64))) fun v2353=>
rq (!ilt v2352 0)<|
lt (eU .u64 (· ||| ·) v2348 v2353) fun v2354=>
rq (ile (0:Int) v2346&&ilt v2346 4)<|
lt (y.2.2.2.1.set v2346.toNat v2354) fun (v2355:(List Int))=>
lt (IntKind.i64.wrap (x.2.2.2.2.2.1.tdiv 4)) fun v2356=>
lt (IntKind.i64.wrap (x.2.2.2.2.2.1.tdiv 4)) fun v2357=>
rq (ile (0:Int) v2357&&ilt v2357 4)<|
lt (y.2.2.2.2.1.getD v2357.toNat 0) fun (v2358:Int)=>
lt (IntKind.i64.wrap ((16:Int)+x.2.2.2.2.2.1)) fun v2359=>
rq (ile (0:Int) v2359&&ilt v2359 32)<|
lt (y.1.getD v2359.toNat 0) fun (v2360:Int)=>
lt (IntKind.u64.wrap (v2360)) fun v2361=>
lt (x.2.2.2.2.2.1.tmod 4) fun (v2362:Int)=>
lt (IntKind.i64.wrap ((16:Int)*v2362)) fun v2363=>
lt (IntKind.u64.wrap (v2361*2^(min v2363.toNat 64))) fun v2364=>
rq (!ilt v2363 0)<|
lt (eU .u64 (· ||| ·) v2358 v2364) fun v2365=>
rq (ile (0:Int) v2356&&ilt v2356 4)<|
lt (y.2.2.2.2.1.set v2356.toNat v2365) fun (v2366:(List Int))=>
lt (IntKind.i64.wrap (x.2.2.2.2.2.1+1)) fun v2367=>
kn ((),(),(),(),(),v2367,()) (y.1,y.2.1,y.2.2.1,v2355,v2366,())
else
ke 0 ((),(),(),(),(),x.2.2.2.2.2.1,()) (y.1,y.2.1,y.2.2.1,y.2.2.2.1,y.2.2.2.2.1,())
def fu0 (x:X0) (y:Y0):Nat:=SB (((16:Int) - x.2.2.2.2.2.1).toNat+1)
def l0 (x:X0) (y:Y0):Bool×Nat×X0×Y0×U0×V0:=rounds (fun rq kn ke kr x y=>g0 rq kn ke kr x y) () () (fu0 x y) x y
def g {Z:Type} (rq:Bool→Z→Z) (rt:X→Z) (d:(List Int)):Z:=
lt (dH.l0 ((),(),(),(),(),0,()) (d,[0,0,0,0],[0,0,0,0],[0,0,0,0],[0,0,0,0],())) fun w2368=>
rq w2368.1<|
rt (w2368.2.2.2.1.2.2.2.1,w2368.2.2.2.1.2.2.2.2.1)
def r (d:(List Int)):Bool×X:=g chk (fun x=>(true,x)) d
def D:aH:=Dof (P:=Tryz.prog) []
abbrev lf0:=dw (R:=Res) [1] (rounds (fun rq kn ke kr x y=>g0 rq kn ke kr x y) () ()) fu0
def tab:List (Nat×LE Res):= [(4,.typed (eY 48 sh0 bx0 aY aX aZ (lf0)))]
theorem bV:Nonempty (Told E0 D tab Tryz.f97.ntmps (aG (codeOf Tryz.f97) 0) 48 sh0 bx0 aY aX aZ lf0):=fH (sh:=sh0) (bx:=bx0) (ord:=aY) (shR:=aX) (bxR:=aZ) bX (by kernel_rfl) (by kernel_rfl) (by kernel_rfl) [1] _ _ _ @g0 (fun _ _ _ _ _=>by kernel_rfl) (by
  intro _ _ _ _ _ _ _ h i k x y
  simp only [g0]
  with_reducible repeat (first|(apply J.lt; intro _)|apply J.rq|apply J.bif|exact h _ _|exact i _ (by decide) _ _|exact k (by decide) _ _))
theorem bW:fQ E0 D tab Tryz.f97.ntmps (codeOf Tryz.f97):=bT (bs:= [aG (codeOf Tryz.f97) 0]) (by kernel_rfl) (aF (bP (by kernel_rfl) (bV)) aO)
abbrev aS:List AS:= [.one (.val (.arr 32 (.int .i64)))]
abbrev bS:List Ty:= []
def ent:Ent Tryz.prog:=bH (D:=D) (tab:=tab) hE0 (ay _) [true,true] Tryz.func97 (by kernel_rfl) bW aS bS res (fun x y=>r x.1) (fun x y=>g (fun c z=>req c z) (fun x=>some (res x)) x.1) (fun _ _=>by kernel_rfl) (by
 intro x y
 show J _ (g chk (fun x=>(true,x)) x.1) (g (fun c z=>req c z) (fun x=>some (res x)) x.1)
 unfold g
 with_reducible repeat (first|(apply J.lt; intro _)|apply J.rq|apply J.bif|exact J.rt rfl))
end dH
namespace iU
abbrev X:Type:=(List Int)×Int
def res (x:(List Int)×Int):Res:=⟨[.val ⟨.arr 4 (.int .u64),x.1⟩,.val ⟨.int .i64,x.2⟩],[],[]⟩
def g {Z:Type} (rq:Bool→Z→Z) (rt:X→Z) (low:(List Int)) (high:(List Int)) (m:(List Int)):Z:=
lt (ieq (m.getD 0 0) 0&&(ieq (m.getD 1 0) 0&&(ieq (m.getD 2 0) 0&&(ieq (m.getD 3 0) 0&&true)))) fun v1831=>
bif v1831 then
rt ([0,0,0,0],1)
else
lt (dP.r low high) fun w1945=>
rq w1945.1<|
lt (dP.r m [0,0,0,0]) fun w1946=>
rq w1946.1<|
lt (aP.r w1945.2 w1946.2) fun w2270=>
rq w2270.1<|
lt (List.replicate 32 0) fun (v2271:(List Int))=>
lt (List.replicate 32 0) fun (v2272:(List Int))=>
lt (dH.r w2270.2.2) fun w2369=>
rq w2369.1<|
rt (w2369.2.1,0)
def r (low:(List Int)) (high:(List Int)) (m:(List Int)):Bool×X:=g chk (fun x=>(true,x)) low high m
def D:aH:=Dof (P:=Tryz.prog) [dP.ent,aP.ent,dH.ent]
def tab:List (Nat×LE Res):= []
abbrev aS:List AS:= [.one (.val (.arr 4 (.int .u64))),.one (.val (.arr 4 (.int .u64))),.one (.val (.arr 4 (.int .u64)))]
abbrev bS:List Ty:= []
def ent:Ent Tryz.prog:=bH (D:=D) (tab:=tab) hE0 (ay _) [true,true] Tryz.func64 (by kernel_rfl) aC aS bS res (fun x y=>r x.1 x.2.1 x.2.2.1) (fun x y=>g (fun c z=>req c z) (fun x=>some (res x)) x.1 x.2.1 x.2.2.1) (fun _ _=>by kernel_rfl) (by
 intro x y
 show J _ (g chk (fun x=>(true,x)) x.1 x.2.1 x.2.2.1) (g (fun c z=>req c z) (fun x=>some (res x)) x.1 x.2.1 x.2.2.1)
 unfold g
 with_reducible repeat (first|(apply J.lt; intro _)|apply J.rq|apply J.bif|exact J.rt rfl))
end iU
namespace jg
abbrev X:Type:=Int
def res (x:Int):Res:=⟨[.val ⟨.int .i64,x⟩],[],[]⟩
def g {Z:Type} (rq:Bool→Z→Z) (rt:X→Z) (a:(List Int)) (qx:Int):Z:=
lt (aM.r qx) fun w1830=>
rq w1830.1<|
lt (iU.r a [0,0,0,0] w1830.2) fun w2370=>
rq w2370.1<|
lt (aW.r w2370.2.1) fun w2371=>
rq w2371.1<|
rt w2371.2.1
def r (a:(List Int)) (qx:Int):Bool×X:=g chk (fun x=>(true,x)) a qx
def D:aH:=Dof (P:=Tryz.prog) [aM.ent,iU.ent,aW.ent]
def tab:List (Nat×LE Res):= []
abbrev aS:List AS:= [.one (.val (.arr 4 (.int .u64))),.one (.val (.int .i64))]
abbrev bS:List Ty:= []
def ent:Ent Tryz.prog:=bH (D:=D) (tab:=tab) hE0 (ay _) [true] Tryz.func35 (by kernel_rfl) aC aS bS res (fun x y=>r x.1 x.2.1) (fun x y=>g (fun c z=>req c z) (fun x=>some (res x)) x.1 x.2.1) (fun _ _=>by kernel_rfl) (by
 intro x y
 show J _ (g chk (fun x=>(true,x)) x.1 x.2.1) (g (fun c z=>req c z) (fun x=>some (res x)) x.1 x.2.1)
 unfold g
 with_reducible repeat (first|(apply J.lt; intro _)|apply J.rq|apply J.bif|exact J.rt rfl))
end jg
end Go.Own
