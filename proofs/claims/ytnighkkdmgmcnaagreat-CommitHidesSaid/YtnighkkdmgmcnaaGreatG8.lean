/- What functions compute, printed by wip/gen/gen2.py. -/
import Derived.Test.YtnighkkdmgmcnaaGreatG7
set_option linter.unusedVariables false
set_option linter.unusedSimpArgs false
set_option maxRecDepth 100000
noncomputable section
namespace Go.Own
open Go.Proofs Go.Proofs.YtnighkkdmgmcnaaGreat
namespace bD
abbrev X:Type:=Bool
def res (x:Bool):Res:=⟨[.val ⟨.bool,x⟩],[],[]⟩
def brn (w:Bool×X):Brn Res:= .one w.1 (res w.2)
theorem bK (w:Bool×X):(brn w).res=(w.1,res w.2):=rfl
abbrev sh0:List (Nat×Sh):= [(0,.p (.sl (.arr 4 (.int .u64)))),(1,.p (.sl (.arr 4 (.int .u64)))),(4,.p .bool),(5,.p (.int .i64))]
abbrev bx0:List (Nat×Ty):= []
abbrev bA:List (Nat×Ty):= []
abbrev bn:List (Nat×Sh):= [(4,.p .bool)]
abbrev bB:List (Nat×Ty):= []
abbrev cO:List (Nat×Ty):= []
abbrev X0:Type:=(List (List Int))×(List (List Int))×Bool×Int×Unit
abbrev Y0:Type:=Unit
abbrev U0:Type:=Bool×Unit
abbrev V0:Type:=Unit
def g0 {Z:Type} (rq:Bool→Z→Z) (kn:X0→Y0→Z) (ke:Nat→X0→Y0→Z) (kr:U0→V0→Z) (x:X0) (y:Y0):Z:=
lt (x.1.length:Int) fun (v1756:Int)=>
lt (ilt x.2.2.2.1 v1756) fun v1757=>
bif v1757 then
lt (x.1.getD x.2.2.2.1.toNat [0,0,0,0]) fun (v1758:(List Int))=>
rq (ile (0:Int) x.2.2.2.1&&ilt x.2.2.2.1 (x.1.length:Int))<|
lt (x.2.1.getD x.2.2.2.1.toNat [0,0,0,0]) fun (v1759:(List Int))=>
rq (ile (0:Int) x.2.2.2.1&&ilt x.2.2.2.1 (x.2.1.length:Int))<|
lt (!(ieq (v1758.getD 0 0) (v1759.getD 0 0)&&(ieq (v1758.getD 1 0) (v1759.getD 1 0)&&(ieq (v1758.getD 2 0) (v1759.getD 2 0)&&(ieq (v1758.getD 3 0) (v1759.getD 3 0)&&true))))) fun (v1760:Bool)=>
bif v1760 then
kr (false,()) ()
else
lt (IntKind.i64.wrap (x.2.2.2.1+1)) fun v1761=>
kn (x.1,x.2.1,x.2.2.1,v1761,()) ()
else
ke 0 (x.1,x.2.1,x.2.2.1,x.2.2.2.1,()) ()
def fu0 (x:X0) (y:Y0):Nat:=((x.1.length:Int) - x.2.2.2.1).toNat+1
def l0 (x:X0) (y:Y0):Bool×Nat×X0×Y0×U0×V0:=rounds (fun rq kn ke kr x y=>g0 rq kn ke kr x y) (false,()) () (fu0 x y) x y
def g {Z:Type} (rq:Bool→Z→Z) (rt:X→Z) (a:(List (List Int))) (b:(List (List Int))):Z:=
lt (a.length:Int) fun (v1751:Int)=>
lt (b.length:Int) fun (v1752:Int)=>
lt (v1751 != v1752) fun (v1753:Bool)=>
bif v1753 then
rt false
else
lt (bD.l0 (a,b,false,0,()) ()) fun w1762=>
rq w1762.1<|
bif Nat.beq w1762.2.1 0 then
rt w1762.2.2.2.2.1.1
else
rt true
def r (a:(List (List Int))) (b:(List (List Int))):Bool×X:=g chk (fun x=>(true,x)) a b
def D:aF:=Dof (P:=Tryz.prog) []
abbrev lf0:=dB (R:=Res) [0,1] (rounds (fun rq kn ke kr x y=>g0 rq kn ke kr x y) (false,()) ()) fu0
def tab:List (Nat×LE Res):= [(5,.typed (fB 26 sh0 bx0 bA bn bB (lf0)))]
theorem run (a:(List (List Int))) (b:(List (List Int))):fV E0 [true] D (gZ E0 D tab 9) Tryz.f19 (codeOf Tryz.f19) [.val ⟨.sl (.arr 4 (.int .u64)),a⟩,.val ⟨.sl (.arr 4 (.int .u64)),b⟩] []=g (fun c z=>req c z) (fun x=>some (res x)) a b:=by kernel_rfl
theorem rel (a:(List (List Int))) (b:(List (List Int))):J (fun w z=>z=some (res w)) (g chk (fun x=>(true,x)) a b) (g (fun c z=>req c z) (fun x=>some (res x)) a b):=by
 unfold g
 with_reducible repeat (first|(apply J.lt; intro _)|apply J.rq|apply J.bif|exact J.rt rfl)
theorem bZ:Nonempty (Told E0 D tab Tryz.f19.ntmps (aI (codeOf Tryz.f19) 0) 26 sh0 bx0 bA bn bB lf0):=fH (sh:=sh0) (bx:=bx0) (ord:=bA) (shR:=bn) (bxR:=bB) cO (by kernel_rfl) (by kernel_rfl) (by kernel_rfl) [0,1] _ _ _ @g0 (fun _ _ _ _ _=>by kernel_rfl) (by
  intro _ _ _ _ _ _ _ h i k x y
  simp only [g0]
  with_reducible repeat (first|(apply J.lt; intro _)|apply J.rq|apply J.bif|exact h _ _|exact i _ (by decide) _ _|exact k (by decide) _ _))
theorem cu:fJ E0 D tab Tryz.f19.ntmps (codeOf Tryz.f19):=bU (bs:= [aI (codeOf Tryz.f19) 0]) (by kernel_rfl) (aG (bN (by kernel_rfl) (bZ)) aT)
theorem ok:mH Tryz.f19=true:=by kernel_rfl
abbrev aS:List AS:= [.one (.val (.sl (.arr 4 (.int .u64)))),.one (.val (.sl (.arr 4 (.int .u64))))]
abbrev bS:List Ty:= []
def F (x:ASs aS) (y:Bs bS):Brn Res:=brn (r x.1 x.2.1)
theorem good (x:ASs aS) (y:Bs bS) (h:(F x y).res.1=true):Good Tryz.prog 19 (ASs.mk aS x) (Bs.mk bS y) (F x y).res.2:=
 eH hE0 (ay _) Tryz.func19 ok cu bK (run x.1 x.2.1) (rel x.1 x.2.1) h
def ent:Ent Tryz.prog:=⟨19,shF aS bS F,bC good⟩
def ro:(List (List Int))→(List (List Int))→Bool×X:=Classical.choose (⟨r,rfl⟩:∃ q:(List (List Int))→(List (List Int))→Bool×X,q=r)
theorem fE:ro=r:=Classical.choose_spec (⟨r,rfl⟩:∃ q:(List (List Int))→(List (List Int))→Bool×X,q=r)
def FO (x:ASs aS) (y:Bs bS):Brn Res:=brn (ro x.1 x.2.1)
theorem jl:FO=F:=by unfold FO F; rw [fE]
def lF:Ent Tryz.prog:=⟨19,shF aS bS FO,bC (by rw [jl]; exact good)⟩
end bD
namespace eY
abbrev X:Type:=Int
def res (x:Int):Res:=⟨[.val ⟨.int .i64,x⟩],[],[]⟩
def brn (w:Bool×X):Brn Res:= .one w.1 (res w.2)
theorem bK (w:Bool×X):(brn w).res=(w.1,res w.2):=rfl
def g {Z:Type} (rq:Bool→Z→Z) (rt:X→Z) (a:Int) (b:Int) (m:Int):Z:=
lt (a.tmod m) fun (v1772:Int)=>
rq (!ieq m 0)<|
lt (IntKind.u64.wrap (v1772)) fun v1773=>
lt (b.tmod m) fun (v1774:Int)=>
rq (!ieq m 0)<|
lt (IntKind.u64.wrap (v1774)) fun v1775=>
lt (iy.r v1773 v1775) fun w1776=>
rq w1776.1<|
lt (IntKind.u64.wrap (m)) fun v1777=>
lt (d9.r w1776.2.1 w1776.2.2 v1777) fun w1778=>
rq w1778.1<|
lt (IntKind.i64.wrap (w1778.2.2)) fun v1779=>
rt v1779
def r (a:Int) (b:Int) (m:Int):Bool×X:=g chk (fun x=>(true,x)) a b m
def D:aF:=Dof (P:=Tryz.prog) [iy.ent,d9.ent]
def tab:List (Nat×LE Res):= []
theorem run (a:Int) (b:Int) (m:Int):fV E0 [true] D (gZ E0 D tab 9) Tryz.f73 (codeOf Tryz.f73) [.val ⟨.int .i64,a⟩,.val ⟨.int .i64,b⟩,.val ⟨.int .i64,m⟩] []=g (fun c z=>req c z) (fun x=>some (res x)) a b m:=by kernel_rfl
theorem rel (a:Int) (b:Int) (m:Int):J (fun w z=>z=some (res w)) (g chk (fun x=>(true,x)) a b m) (g (fun c z=>req c z) (fun x=>some (res x)) a b m):=by
 unfold g
 with_reducible repeat (first|(apply J.lt; intro _)|apply J.rq|apply J.bif|exact J.rt rfl)
theorem ok:mH Tryz.f73=true:=by kernel_rfl
abbrev aS:List AS:= [.one (.val (.int .i64)),.one (.val (.int .i64)),.one (.val (.int .i64))]
abbrev bS:List Ty:= []
def F (x:ASs aS) (y:Bs bS):Brn Res:=brn (r x.1 x.2.1 x.2.2.1)
theorem good (x:ASs aS) (y:Bs bS) (h:(F x y).res.1=true):Good Tryz.prog 73 (ASs.mk aS x) (Bs.mk bS y) (F x y).res.2:=
 eH hE0 (ay _) Tryz.func73 ok aD bK (run x.1 x.2.1 x.2.2.1) (rel x.1 x.2.1 x.2.2.1) h
def ent:Ent Tryz.prog:=⟨73,shF aS bS F,bC good⟩
def ro:Int→Int→Int→Bool×X:=Classical.choose (⟨r,rfl⟩:∃ q:Int→Int→Int→Bool×X,q=r)
theorem fE:ro=r:=Classical.choose_spec (⟨r,rfl⟩:∃ q:Int→Int→Int→Bool×X,q=r)
def FO (x:ASs aS) (y:Bs bS):Brn Res:=brn (ro x.1 x.2.1 x.2.2.1)
theorem jl:FO=F:=by unfold FO F; rw [fE]
def lF:Ent Tryz.prog:=⟨73,shF aS bS FO,bC (by rw [jl]; exact good)⟩
end eY
namespace gD
abbrev X:Type:=Int
def res (x:Int):Res:=⟨[.val ⟨.int .i64,x⟩],[],[]⟩
def brn (w:Bool×X):Brn Res:= .one w.1 (res w.2)
theorem bK (w:Bool×X):(brn w).res=(w.1,res w.2):=rfl
def g {Z:Type} (rq:Bool→Z→Z) (rt:X→Z) (a:(List Int)) (kx:Int):Z:=
lt (bQ.r a) fun w1781=>
rq w1781.1<|
lt (List.replicate 256 false) fun (v1782:(List Bool))=>
lt (ile 0 kx) fun v1783=>
bif v1783 then
lt (ilt kx 256) fun v1784=>
bif v1784 then
rq (ile (0:Int) kx&&ilt kx 256)<|
lt (w1781.2.getD kx.toNat false) fun (v1785:Bool)=>
bif v1785 then
rt 1
else
rt 0
else
rt 0
else
rt 0
def r (a:(List Int)) (kx:Int):Bool×X:=g chk (fun x=>(true,x)) a kx
def D:aF:=Dof (P:=Tryz.prog) [bQ.ent]
def tab:List (Nat×LE Res):= []
theorem run (a:(List Int)) (kx:Int):fV E0 [true] D (gZ E0 D tab 9) Tryz.f94 (codeOf Tryz.f94) [.val ⟨.arr 4 (.int .u64),a⟩,.val ⟨.int .i64,kx⟩] []=g (fun c z=>req c z) (fun x=>some (res x)) a kx:=by kernel_rfl
theorem rel (a:(List Int)) (kx:Int):J (fun w z=>z=some (res w)) (g chk (fun x=>(true,x)) a kx) (g (fun c z=>req c z) (fun x=>some (res x)) a kx):=by
 unfold g
 with_reducible repeat (first|(apply J.lt; intro _)|apply J.rq|apply J.bif|exact J.rt rfl)
theorem ok:mH Tryz.f94=true:=by kernel_rfl
abbrev aS:List AS:= [.one (.val (.arr 4 (.int .u64))),.one (.val (.int .i64))]
abbrev bS:List Ty:= []
def F (x:ASs aS) (y:Bs bS):Brn Res:=brn (r x.1 x.2.1)
theorem good (x:ASs aS) (y:Bs bS) (h:(F x y).res.1=true):Good Tryz.prog 94 (ASs.mk aS x) (Bs.mk bS y) (F x y).res.2:=
 eH hE0 (ay _) Tryz.func94 ok aD bK (run x.1 x.2.1) (rel x.1 x.2.1) h
def ent:Ent Tryz.prog:=⟨94,shF aS bS F,bC good⟩
def ro:(List Int)→Int→Bool×X:=Classical.choose (⟨r,rfl⟩:∃ q:(List Int)→Int→Bool×X,q=r)
theorem fE:ro=r:=Classical.choose_spec (⟨r,rfl⟩:∃ q:(List Int)→Int→Bool×X,q=r)
def FO (x:ASs aS) (y:Bs bS):Brn Res:=brn (ro x.1 x.2.1)
theorem jl:FO=F:=by unfold FO F; rw [fE]
def lF:Ent Tryz.prog:=⟨94,shF aS bS FO,bC (by rw [jl]; exact good)⟩
end gD
namespace di
abbrev X:Type:=Int
def res (x:Int):Res:=⟨[.val ⟨.int .i64,x⟩],[],[]⟩
abbrev sh0:List (Nat×Sh):= [(0,.p (.int .i64)),(2,.p (.int .i64)),(4,.pb 500000 (.arr 4 (.int .u64)) []),(6,.p (.int .i64)),(7,.p (.int .i64)),(8,.p (.int .i64))]
abbrev bx0:List (Nat×Ty):= [(500000,.arr 4 (.int .u64))]
abbrev bA:List (Nat×Ty):= [(500000,.arr 4 (.int .u64))]
abbrev bn:List (Nat×Sh):= []
abbrev bB:List (Nat×Ty):= []
abbrev cO:List (Nat×Ty):= []
abbrev X0:Type:=Int×Int×Unit×Int×Int×Int×Unit
abbrev Y0:Type:=(List Int)×Unit
abbrev U0:Type:=Unit
abbrev V0:Type:=Unit
def g0 {Z:Type} (rq:Bool→Z→Z) (kn:X0→Y0→Z) (ke:Nat→X0→Y0→Z) (kr:U0→V0→Z) (x:X0) (y:Y0):Z:=
lt (ile 0 x.2.2.2.2.2.1) fun v1771=>
bif v1771 then
lt (eY.ro x.2.2.2.2.1 x.2.2.2.2.1 x.2.1) fun w1780=>
rq w1780.1<|
lt (gD.ro y.1 x.2.2.2.2.2.1) fun w1786=>
rq w1786.1<|
lt (w1786.2== 1) fun (v1787:Bool)=>
bif v1787 then
lt (eY.ro w1780.2 x.1 x.2.1) fun w1788=>
rq w1788.1<|
lt (IntKind.i64.wrap (x.2.2.2.2.2.1 - 1)) fun v1789=>
kn (x.1,x.2.1,(),x.2.2.2.1,w1788.2,v1789,()) (y.1,())
else
lt (IntKind.i64.wrap (x.2.2.2.2.2.1 - 1)) fun v1790=>
kn (x.1,x.2.1,(),x.2.2.2.1,w1780.2,v1790,()) (y.1,())
else
ke 0 (x.1,x.2.1,(),x.2.2.2.1,x.2.2.2.2.1,x.2.2.2.2.2.1,()) (y.1,())
def fu0 (x:X0) (y:Y0):Nat:=(x.2.2.2.2.2.1 - (0:Int)+1).toNat+1
def l0 (x:X0) (y:Y0):Bool×Nat×X0×Y0×U0×V0:=rounds (fun rq kn ke kr x y=>g0 rq kn ke kr x y) () () (fu0 x y) x y
def g {Z:Type} (rq:Bool→Z→Z) (rt:X→Z) (a:Int) (e:(List Int)) (m:Int):Z:=
lt ((1:Int).tmod m) fun (v1767:Int)=>
rq (!ieq m 0)<|
lt (aX.r e) fun w1768=>
rq w1768.1<|
lt (IntKind.i64.wrap (w1768.2 - 1)) fun v1769=>
lt (di.l0 (a,m,(),0,v1767,v1769,()) (e,())) fun w1791=>
rq w1791.1<|
rt w1791.2.2.1.2.2.2.2.1
def r (a:Int) (e:(List Int)) (m:Int):Bool×X:=g chk (fun x=>(true,x)) a e m
def D:aF:=Dof (P:=Tryz.prog) [aX.ent,eY.lF,gD.lF]
abbrev lf0:=dB (R:=Res) [1] (rounds (fun rq kn ke kr x y=>g0 rq kn ke kr x y) () ()) fu0
def tab:List (Nat×LE Res):= [(4,.typed (fB 31 sh0 bx0 bA bn bB (lf0)))]
theorem bZ:Nonempty (Told E0 D tab Tryz.f61.ntmps (aI (codeOf Tryz.f61) 0) 31 sh0 bx0 bA bn bB lf0):=fH (sh:=sh0) (bx:=bx0) (ord:=bA) (shR:=bn) (bxR:=bB) cO (by kernel_rfl) (by kernel_rfl) (by kernel_rfl) [1] _ _ _ @g0 (fun _ _ _ _ _=>by kernel_rfl) (by
  intro _ _ _ _ _ _ _ h i k x y
  simp only [g0]
  with_reducible repeat (first|(apply J.lt; intro _)|apply J.rq|apply J.bif|exact h _ _|exact i _ (by decide) _ _|exact k (by decide) _ _))
theorem cu:fJ E0 D tab Tryz.f61.ntmps (codeOf Tryz.f61):=bU (bs:= [aI (codeOf Tryz.f61) 0]) (by kernel_rfl) (aG (bN (by kernel_rfl) (bZ)) aT)
abbrev aS:List AS:= [.one (.val (.int .i64)),.one (.val (.arr 4 (.int .u64))),.one (.val (.int .i64))]
abbrev bS:List Ty:= []
def ent:Ent Tryz.prog:=bG (D:=D) (tab:=tab) hE0 (ay _) [true] Tryz.func61 (by kernel_rfl) cu aS bS res (fun x y=>r x.1 x.2.1 x.2.2.1) (fun x y=>g (fun c z=>req c z) (fun x=>some (res x)) x.1 x.2.1 x.2.2.1) (fun _ _=>by kernel_rfl) (by
 intro x y
 show J _ (g chk (fun x=>(true,x)) x.1 x.2.1 x.2.2.1) (g (fun c z=>req c z) (fun x=>some (res x)) x.1 x.2.1 x.2.2.1)
 unfold g
 with_reducible repeat (first|(apply J.lt; intro _)|apply J.rq|apply J.bif|exact J.rt rfl))
end di
namespace gB
abbrev X:Type:=Int
def res (x:Int):Res:=⟨[.val ⟨.int .i64,x⟩],[],[]⟩
def brn (w:Bool×X):Brn Res:= .one w.1 (res w.2)
theorem bK (w:Bool×X):(brn w).res=(w.1,res w.2):=rfl
def g {Z:Type} (rq:Bool→Z→Z) (rt:X→Z) (s:dh) (a:Int) (e:(List Int)):Z:=
lt (di.r a e s.1) fun w1792=>
rq w1792.1<|
rt w1792.2
def r (s:dh) (a:Int) (e:(List Int)):Bool×X:=g chk (fun x=>(true,x)) s a e
def D:aF:=Dof (P:=Tryz.prog) [di.ent]
def tab:List (Nat×LE Res):= []
theorem run (s:dh) (a:Int) (e:(List Int)):fV E0 [true] D (gZ E0 D tab 9) Tryz.f32 (codeOf Tryz.f32) [.val ⟨iG,s⟩,.val ⟨.int .i64,a⟩,.val ⟨.arr 4 (.int .u64),e⟩] []=g (fun c z=>req c z) (fun x=>some (res x)) s a e:=by kernel_rfl
theorem rel (s:dh) (a:Int) (e:(List Int)):J (fun w z=>z=some (res w)) (g chk (fun x=>(true,x)) s a e) (g (fun c z=>req c z) (fun x=>some (res x)) s a e):=by
 unfold g
 with_reducible repeat (first|(apply J.lt; intro _)|apply J.rq|apply J.bif|exact J.rt rfl)
theorem ok:mH Tryz.f32=true:=by kernel_rfl
abbrev aS:List AS:= [.one (.val iG),.one (.val (.int .i64)),.one (.val (.arr 4 (.int .u64)))]
abbrev bS:List Ty:= []
def F (x:ASs aS) (y:Bs bS):Brn Res:=brn (r x.1 x.2.1 x.2.2.1)
theorem good (x:ASs aS) (y:Bs bS) (h:(F x y).res.1=true):Good Tryz.prog 32 (ASs.mk aS x) (Bs.mk bS y) (F x y).res.2:=
 eH hE0 (ay _) Tryz.func32 ok aD bK (run x.1 x.2.1 x.2.2.1) (rel x.1 x.2.1 x.2.2.1) h
def ent:Ent Tryz.prog:=⟨32,shF aS bS F,bC good⟩
def ro:dh→Int→(List Int)→Bool×X:=Classical.choose (⟨r,rfl⟩:∃ q:dh→Int→(List Int)→Bool×X,q=r)
theorem fE:ro=r:=Classical.choose_spec (⟨r,rfl⟩:∃ q:dh→Int→(List Int)→Bool×X,q=r)
def FO (x:ASs aS) (y:Bs bS):Brn Res:=brn (ro x.1 x.2.1 x.2.2.1)
theorem jl:FO=F:=by unfold FO F; rw [fE]
def lF:Ent Tryz.prog:=⟨32,shF aS bS FO,bC (by rw [jl]; exact good)⟩
end gB
namespace bR
abbrev X:Type:=Bool
def res (x:Bool):Res:=⟨[.val ⟨.bool,x⟩],[],[]⟩
def brn (w:Bool×X):Brn Res:= .one w.1 (res w.2)
theorem bK (w:Bool×X):(brn w).res=(w.1,res w.2):=rfl
def g {Z:Type} (rq:Bool→Z→Z) (rt:X→Z):Z:=
lt (dF.ro 0) fun w1173=>
rq w1173.1<|
lt (bI.ro 5) fun w1208=>
rq w1208.1<|
lt (bI.ro 2) fun w1209=>
rq w1209.1<|
lt (fG.ro w1173.2.1 [w1208.2,w1209.2] 2) fun w1299=>
rq w1299.1<|
lt (!w1173.2.2.2) fun (v1300:Bool)=>
bif v1300 then
rt false
else
lt (w1299.2.2 != 0) fun (v1301:Bool)=>
bif v1301 then
rt false
else
lt (w1299.2.1.length:Int) fun (v1302:Int)=>
lt (v1302 != 2) fun (v1303:Bool)=>
bif v1303 then
rt false
else
lt (w1299.2.1.getD 0 [0,0,0,0]) fun (v1304:(List Int))=>
rq (ilt (0:Int) (w1299.2.1.length:Int))<|
lt (bI.ro 11) fun w1305=>
rq w1305.1<|
lt (bP.ro w1173.2.1 v1304 [(3,(w1305.2,()))]) fun w1694=>
rq w1694.1<|
lt (bI.ro 11) fun w1695=>
rq w1695.1<|
lt (iF.ro w1173.2.1 w1299.2.1 (3,(w1695.2,()))) fun w1747=>
rq w1747.1<|
bif w1747.2 then
lt (bI.ro 12) fun w1748=>
rq w1748.1<|
lt (iF.ro w1173.2.1 w1299.2.1 (3,(w1748.2,()))) fun w1749=>
rq w1749.1<|
lt (!w1749.2) fun (v1750:Bool)=>
bif v1750 then
lt (bD.ro w1694.2.1 w1299.2.1) fun w1763=>
rq w1763.1<|
bif w1763.2 then
lt (w1694.2.2== 0) fun (v1764:Bool)=>
bif v1764 then
lt (gM.ro w1173.2.1 w1299.2.1 0) fun w1765=>
rq w1765.1<|
lt (bI.ro 5) fun w1766=>
rq w1766.1<|
lt (gB.ro w1173.2.2.1 w1173.2.2.1.2.2.1 w1766.2) fun w1793=>
rq w1793.1<|
lt (bI.ro w1793.2) fun w1794=>
rq w1794.1<|
lt (ieq (w1765.2.getD 0 0) (w1794.2.getD 0 0)&&(ieq (w1765.2.getD 1 0) (w1794.2.getD 1 0)&&(ieq (w1765.2.getD 2 0) (w1794.2.getD 2 0)&&(ieq (w1765.2.getD 3 0) (w1794.2.getD 3 0)&&true)))) fun v1795=>
bif v1795 then
lt (jO.ro w1173.2.1 w1299.2.1) fun w1796=>
rq w1796.1<|
rt w1796.2
else
rt false
else
rt false
else
rt false
else
rt false
else
rt false
def r:Bool×X:=g chk (fun x=>(true,x))
def D:aF:=Dof (P:=Tryz.prog) [dF.lF,bI.lF,fG.lF,bP.lF,iF.lF,bD.lF,gM.lF,gB.lF,jO.lF]
def tab:List (Nat×LE Res):= []
theorem run:fV E0 [true] D (gZ E0 D tab 9) Tryz.f9 (codeOf Tryz.f9) [] []=g (fun c z=>req c z) (fun x=>some (res x)):=by kernel_rfl
theorem rel:J (fun w z=>z=some (res w)) (g chk (fun x=>(true,x))) (g (fun c z=>req c z) (fun x=>some (res x))):=by
 unfold g
 with_reducible repeat (first|(apply J.lt; intro _)|apply J.rq|apply J.bif|exact J.rt rfl)
theorem ok:mH Tryz.f9=true:=by kernel_rfl
abbrev aS:List AS:= []
abbrev bS:List Ty:= []
def F (_:ASs aS) (_:Bs bS):Brn Res:=brn r
theorem good (x:ASs aS) (y:Bs bS) (h:(F x y).res.1=true):Good Tryz.prog 9 (ASs.mk aS x) (Bs.mk bS y) (F x y).res.2:=
 eH hE0 (ay _) Tryz.func9 ok aD bK (run) (rel) h
def ent:Ent Tryz.prog:=⟨9,shF aS bS F,bC good⟩
def ro:Bool×X:=Classical.choose (⟨r,rfl⟩:∃ q:Bool×X,q=r)
theorem fE:ro=r:=Classical.choose_spec (⟨r,rfl⟩:∃ q:Bool×X,q=r)
def FO (_:ASs aS) (_:Bs bS):Brn Res:=brn ro
theorem jl:FO=F:=by unfold FO F; rw [fE]
def lF:Ent Tryz.prog:=⟨9,shF aS bS FO,bC (by rw [jl]; exact good)⟩
end bR
namespace iP
abbrev X:Type:=(Unit×((List Int)×Unit))×(Bool×List gI)
def res (x:(Unit×((List Int)×Unit))×(Bool×List gI)):Res:=⟨[.sd ⟨.pair (.vw 1000000 jw) (.pair (.arr 4 (.int .u64)) .unit),x.1⟩],[],[⟨.dyn jw,x.2⟩]⟩
def brn (w:Bool×X):Brn Res:= .one w.1 (res w.2)
theorem bK (w:Bool×X):(brn w).res=(w.1,res w.2):=rfl
def g {Z:Type} (rq:Bool→Z→Z) (rt:X→Z):Z:=
rt (((),([12280068205398558585,6413536983304955349,8741009603146644127,1457863],())),(false,[([65519,0,0,0],(0,())),([1313918027,0,0,0],(2,())),([88175567203779761,0,0,0],(2,())),([15752163429641756547,344435809389764,0,0],(2,())),([3727879549075534671,12844076830096575486,1228573241546452547,20529974],(2,()))]))
def r:Bool×X:=g chk (fun x=>(true,x))
def D:aF:=Dof (P:=Tryz.prog) []
def tab:List (Nat×LE Res):= []
theorem run:fV E0 [false] D (gZ E0 D tab 9) Tryz.f30 (codeOf Tryz.f30) [] []=g (fun c z=>req c z) (fun x=>some (res x)):=by kernel_rfl
theorem rel:J (fun w z=>z=some (res w)) (g chk (fun x=>(true,x))) (g (fun c z=>req c z) (fun x=>some (res x))):=by
 unfold g
 with_reducible repeat (first|(apply J.lt; intro _)|apply J.rq|apply J.bif|exact J.rt rfl)
theorem ok:mH Tryz.f30=true:=by kernel_rfl
abbrev aS:List AS:= []
abbrev bS:List Ty:= []
def F (_:ASs aS) (_:Bs bS):Brn Res:=brn r
theorem good (x:ASs aS) (y:Bs bS) (h:(F x y).res.1=true):Good Tryz.prog 30 (ASs.mk aS x) (Bs.mk bS y) (F x y).res.2:=
 eH hE0 (ay _) Tryz.func30 ok aD bK (run) (rel) h
def ent:Ent Tryz.prog:=⟨30,shF aS bS F,bC good⟩
def ro:Bool×X:=Classical.choose (⟨r,rfl⟩:∃ q:Bool×X,q=r)
theorem fE:ro=r:=Classical.choose_spec (⟨r,rfl⟩:∃ q:Bool×X,q=r)
def FO (_:ASs aS) (_:Bs bS):Brn Res:=brn ro
theorem jl:FO=F:=by unfold FO F; rw [fE]
def lF:Ent Tryz.prog:=⟨30,shF aS bS FO,bC (by rw [jl]; exact good)⟩
end iP
namespace gy
abbrev X:Type:=(List dU)×Int
def res (x:(List dU)×Int):Res:=⟨[.val ⟨.sl fM,x.1⟩,.val ⟨.int .i64,x.2⟩],[],[]⟩
abbrev sh0:List (Nat×Sh):= [(0,.p (.ref aj)),(1,.p (.sl (.arr 4 (.int .u64)))),(6,.nil),(7,.p (.int .i64)),(8,.va 500000 fM),(21,.p (.int .i64)),(22,.p (.int .i64))]
abbrev bx0:List (Nat×Ty):= [(500000,.dyn fM)]
abbrev bA:List (Nat×Ty):= [(500000,.dyn fM)]
abbrev bn:List (Nat×Sh):= []
abbrev bB:List (Nat×Ty):= []
abbrev cO:List (Nat×Ty):= []
abbrev X0:Type:=(Option af)×(List (List Int))×Unit×Int×Unit×Int×Int×Unit
abbrev Y0:Type:=(Bool×List dU)×Unit
abbrev U0:Type:=Unit
abbrev V0:Type:=Unit
def g0 {Z:Type} (rq:Bool→Z→Z) (kn:X0→Y0→Z) (ke:Nat→X0→Y0→Z) (kr:U0→V0→Z) (x:X0) (y:Y0):Z:=
lt (ilt x.2.2.2.2.2.2.1 x.2.2.2.2.2.1) fun v1821=>
bif v1821 then
lt (IntKind.i64.wrap (x.2.2.2.2.2.2.1+1)) fun v1822=>
lt (IntKind.i64.wrap (x.2.2.2.2.2.2.1+1)) fun v1823=>
lt (bY.r v1823) fun w1824=>
rq w1824.1<|
lt (iL.r x.1 x.2.1 w1824.2) fun w1825=>
rq w1825.1<|
lt (y.1.1&&false) fun (v1826:Bool)=>
lt (y.1.2++ [(v1822,(w1825.2,()))]) fun (v1827:(List dU))=>
rq (nle ((2*(y.1.2.length+1)+512)*40) 70368744177664)<|
lt (IntKind.i64.wrap (x.2.2.2.2.2.2.1+1)) fun v1828=>
kn (x.1,x.2.1,(),x.2.2.2.1,(),x.2.2.2.2.2.1,v1828,()) ((v1826,v1827),())
else
ke 0 (x.1,x.2.1,(),x.2.2.2.1,(),x.2.2.2.2.2.1,x.2.2.2.2.2.2.1,()) (y.1,())
def fu0 (x:X0) (y:Y0):Nat:=(x.2.2.2.2.2.1 - x.2.2.2.2.2.2.1).toNat+1
def l0 (x:X0) (y:Y0):Bool×Nat×X0×Y0×U0×V0:=rounds (fun rq kn ke kr x y=>g0 rq kn ke kr x y) () () (fu0 x y) x y
def g {Z:Type} (rq:Bool→Z→Z) (rt:X→Z) (gx:(Option af)) (f:(List (List Int))) (n:Int):Z:=
lt (aQ.r gx) fun w1818=>
rq w1818.1<|
bif w1818.2.isNone then
rt ([],1)
else
lt (ilt n 1) fun v1819=>
bif v1819 then
rt ([],1)
else
lt (ilt 7 n) fun v1820=>
bif v1820 then
rt ([],1)
else
lt (gy.l0 (gx,f,(),0,(),n,0,()) ((true,[]),())) fun w1829=>
rq w1829.1<|
rt (w1829.2.2.2.1.1.2,0)
def r (gx:(Option af)) (f:(List (List Int))) (n:Int):Bool×X:=g chk (fun x=>(true,x)) gx f n
def D:aF:=Dof (P:=Tryz.prog) [aQ.ent,bY.ent,iL.ent]
abbrev lf0:=dB (R:=Res) [1] (rounds (fun rq kn ke kr x y=>g0 rq kn ke kr x y) () ()) fu0
def tab:List (Nat×LE Res):= [(6,.typed (fB 39 sh0 bx0 bA bn bB (lf0)))]
theorem bZ:Nonempty (Told E0 D tab Tryz.f31.ntmps (aI (codeOf Tryz.f31) 0) 39 sh0 bx0 bA bn bB lf0):=fH (sh:=sh0) (bx:=bx0) (ord:=bA) (shR:=bn) (bxR:=bB) cO (by kernel_rfl) (by kernel_rfl) (by kernel_rfl) [1] _ _ _ @g0 (fun _ _ _ _ _=>by kernel_rfl) (by
  intro _ _ _ _ _ _ _ h i k x y
  simp only [g0]
  with_reducible repeat (first|(apply J.lt; intro _)|apply J.rq|apply J.bif|exact h _ _|exact i _ (by decide) _ _|exact k (by decide) _ _))
theorem cu:fJ E0 D tab Tryz.f31.ntmps (codeOf Tryz.f31):=bU (bs:= [aI (codeOf Tryz.f31) 0]) (by kernel_rfl) (aG (bN (by kernel_rfl) (bZ)) aT)
abbrev aS:List AS:= [.one (.val (.ref aj)),.one (.val (.sl (.arr 4 (.int .u64)))),.one (.val (.int .i64))]
abbrev bS:List Ty:= []
def ent:Ent Tryz.prog:=bG (D:=D) (tab:=tab) hE0 (ay _) [true,true] Tryz.func31 (by kernel_rfl) cu aS bS res (fun x y=>r x.1 x.2.1 x.2.2.1) (fun x y=>g (fun c z=>req c z) (fun x=>some (res x)) x.1 x.2.1 x.2.2.1) (fun _ _=>by kernel_rfl) (by
 intro x y
 show J _ (g chk (fun x=>(true,x)) x.1 x.2.1 x.2.2.1) (g (fun c z=>req c z) (fun x=>some (res x)) x.1 x.2.1 x.2.2.1)
 unfold g
 with_reducible repeat (first|(apply J.lt; intro _)|apply J.rq|apply J.bif|exact J.rt rfl))
end gy
namespace aC
abbrev X:Type:=Bool
def res (x:Bool):Res:=⟨[.val ⟨.bool,x⟩],[],[]⟩
def brn (w:Bool×X):Brn Res:= .one w.1 (res w.2)
theorem bK (w:Bool×X):(brn w).res=(w.1,res w.2):=rfl
abbrev sh0:List (Nat×Sh):= [(2,.p (.int .i64)),(6,.p .bool),(7,.p (.int .i64)),(8,.p (.ref aj)),(10,.p (.sl (.arr 4 (.int .u64)))),(12,.p (.sl fM)),(14,.va 500000 fM),(15,.p (.int .i64))]
abbrev bx0:List (Nat×Ty):= [(500000,.dyn fM)]
abbrev bA:List (Nat×Ty):= [(500000,.dyn fM)]
abbrev bn:List (Nat×Sh):= []
abbrev bB:List (Nat×Ty):= []
abbrev cO:List (Nat×Ty):= []
abbrev X0:Type:=Int×Bool×Int×(Option af)×(List (List Int))×(List dU)×Unit×Int×Unit
abbrev Y0:Type:=(Bool×List dU)×Unit
abbrev U0:Type:=Unit
abbrev V0:Type:=Unit
def g0 {Z:Type} (rq:Bool→Z→Z) (kn:X0→Y0→Z) (ke:Nat→X0→Y0→Z) (kr:U0→V0→Z) (x:X0) (y:Y0):Z:=
lt (ilt x.2.2.2.2.2.2.2.1 7) fun v1869=>
bif v1869 then
lt (y.1.2.length:Int) fun (v1870:Int)=>
lt (IntKind.i64.wrap (x.2.2.1 - 1)) fun v1871=>
lt (ilt v1870 v1871) fun v1872=>
bif v1872 then
lt (eP .i64 (· &&& ·) x.1 (255:Int)) fun v1873=>
lt (IntKind.i64.wrap (v1873+x.2.2.2.2.2.2.2.1)) fun v1874=>
lt (v1874.tmod 7) fun (v1875:Int)=>
lt (x.2.2.2.2.2.1.getD v1875.toNat (0,([0,0,0,0],()))) fun (v1876:dU)=>
rq (ile (0:Int) v1875&&ilt v1875 (x.2.2.2.2.2.1.length:Int))<|
lt (y.1.1&&false) fun (v1877:Bool)=>
lt (y.1.2++ [v1876]) fun (v1878:(List dU))=>
rq (nle ((2*(y.1.2.length+1)+512)*40) 70368744177664)<|
lt (IntKind.i64.wrap (x.2.2.2.2.2.2.2.1+1)) fun v1879=>
kn (x.1,x.2.1,x.2.2.1,x.2.2.2.1,x.2.2.2.2.1,x.2.2.2.2.2.1,(),v1879,()) ((v1877,v1878),())
else
ke 0 (x.1,x.2.1,x.2.2.1,x.2.2.2.1,x.2.2.2.2.1,x.2.2.2.2.2.1,(),x.2.2.2.2.2.2.2.1,()) (y.1,())
else
ke 0 (x.1,x.2.1,x.2.2.1,x.2.2.2.1,x.2.2.2.2.1,x.2.2.2.2.2.1,(),x.2.2.2.2.2.2.2.1,()) (y.1,())
def fu0 (x:X0) (y:Y0):Nat:=((7:Int) - x.2.2.2.2.2.2.2.1).toNat+1
def l0 (x:X0) (y:Y0):Bool×Nat×X0×Y0×U0×V0:=rounds (fun rq kn ke kr x y=>g0 rq kn ke kr x y) () () (fu0 x y) x y
def g {Z:Type} (rq:Bool→Z→Z) (rt:X→Z) (which:Int) (f:(List (List Int))) (liars:Int):Z:=
lt (f.length:Int) fun (v1848:Int)=>
lt (ilt v1848 1) fun v1849=>
bif v1849 then
lt bR.ro fun w1850=>
rq w1850.1<|
rt w1850.2
else
lt (ilt 7 v1848) fun v1851=>
bif v1851 then
lt bR.ro fun w1852=>
rq w1852.1<|
rt w1852.2
else
lt eX.ro fun w1853=>
rq w1853.1<|
lt eU.ro fun w1854=>
rq w1854.1<|
lt iP.ro fun w1855=>
rq w1855.1<|
lt (eP .i64 (· &&& ·) which (255:Int)) fun v1856=>
lt (v1856.tmod 3) fun (v1857:Int)=>
rq (ile (0:Int) v1857&&ilt v1857 3)<|
lt ([(w1853.2.2.2,w1853.2.1.2),(w1854.2.2.2,w1854.2.1.2),(w1855.2.2.2,w1855.2.1.2)].getD v1857.toNat ([],([0,0,0,0],()))) fun (v1858:iA)=>
lt (iw.r v1858) fun w1859=>
bif Nat.beq w1859.2.1 0 then
rq w1859.1<|
lt (fG.r w1859.2.2.1.1 f v1848) fun w1860=>
rq w1860.1<|
lt (gy.r w1859.2.2.1.1 f 7) fun w1861=>
rq w1861.1<|
lt (w1859.2.2.1.2 != 0) fun (v1862:Bool)=>
bif v1862 then
rt false
else
lt (w1860.2.2 != 0) fun (v1863:Bool)=>
bif v1863 then
rt false
else
lt (w1861.2.2 != 0) fun (v1864:Bool)=>
bif v1864 then
rt false
else
lt (w1860.2.1.length:Int) fun (v1865:Int)=>
lt (v1865 != v1848) fun (v1866:Bool)=>
bif v1866 then
rt false
else
lt (w1861.2.1.length:Int) fun (v1867:Int)=>
lt (v1867 != 7) fun (v1868:Bool)=>
bif v1868 then
rt false
else
lt (aC.l0 (liars,false,v1848,w1859.2.2.1.1,w1860.2.1,w1861.2.1,(),0,()) ((true,[]),())) fun w1880=>
rq w1880.1<|
lt (w1880.2.2.1.2.2.2.2.1.getD 0 [0,0,0,0]) fun (v1881:(List Int))=>
rq (ilt (0:Int) (w1880.2.2.1.2.2.2.2.1.length:Int))<|
lt (bP.r w1880.2.2.1.2.2.2.1 v1881 w1880.2.2.2.1.1.2) fun w1882=>
rq w1882.1<|
lt (w1882.2.2== 0) fun (v1883:Bool)=>
bif v1883 then
lt (bD.r w1882.2.1 w1880.2.2.1.2.2.2.2.1) fun w1884=>
rq w1884.1<|
bif w1884.2 then
lt bR.ro fun w1885=>
rq w1885.1<|
rt w1885.2
else
rt false
else
rt false
else
rq w1859.1<|
lt (fG.r (some w1859.2.2.2.2) f v1848) fun w1886=>
rq w1886.1<|
lt (gy.r (some w1859.2.2.2.2) f 7) fun w1887=>
rq w1887.1<|
lt (w1859.2.2.2.1 != 0) fun (v1888:Bool)=>
bif v1888 then
rt false
else
lt (w1886.2.2 != 0) fun (v1889:Bool)=>
bif v1889 then
rt false
else
lt (w1887.2.2 != 0) fun (v1890:Bool)=>
bif v1890 then
rt false
else
lt (w1886.2.1.length:Int) fun (v1891:Int)=>
lt (v1891 != v1848) fun (v1892:Bool)=>
bif v1892 then
rt false
else
lt (w1887.2.1.length:Int) fun (v1893:Int)=>
lt (v1893 != 7) fun (v1894:Bool)=>
bif v1894 then
rt false
else
lt (aC.l0 (liars,false,v1848,(some w1859.2.2.2.2),w1886.2.1,w1887.2.1,(),0,()) ((true,[]),())) fun w1895=>
rq w1895.1<|
lt (w1895.2.2.1.2.2.2.2.1.getD 0 [0,0,0,0]) fun (v1896:(List Int))=>
rq (ilt (0:Int) (w1895.2.2.1.2.2.2.2.1.length:Int))<|
lt (bP.r w1895.2.2.1.2.2.2.1 v1896 w1895.2.2.2.1.1.2) fun w1897=>
rq w1897.1<|
lt (w1897.2.2== 0) fun (v1898:Bool)=>
bif v1898 then
lt (bD.r w1897.2.1 w1895.2.2.1.2.2.2.2.1) fun w1899=>
rq w1899.1<|
bif w1899.2 then
lt bR.ro fun w1900=>
rq w1900.1<|
rt w1900.2
else
rt false
else
rt false
def r (which:Int) (f:(List (List Int))) (liars:Int):Bool×X:=g chk (fun x=>(true,x)) which f liars
def D:aF:=Dof (P:=Tryz.prog) [bR.lF,eX.lF,eU.lF,iP.lF,iw.ent,fG.ent,gy.ent,bP.ent,bD.ent]
abbrev lf0:=dB (R:=Res) [1] (rounds (fun rq kn ke kr x y=>g0 rq kn ke kr x y) () ()) fu0
def tab:List (Nat×LE Res):= [(12,.typed (fB 117 sh0 bx0 bA bn bB (lf0)))]
theorem run (which:Int) (f:(List (List Int))) (liars:Int):fV E0 [true] D (gZ E0 D tab 9) Tryz.f8 (codeOf Tryz.f8) [.val ⟨.int .i64,which⟩,.val ⟨.sl (.arr 4 (.int .u64)),f⟩,.val ⟨.int .i64,liars⟩] []=g (fun c z=>req c z) (fun x=>some (res x)) which f liars:=by kernel_rfl
theorem rel (which:Int) (f:(List (List Int))) (liars:Int):J (fun w z=>z=some (res w)) (g chk (fun x=>(true,x)) which f liars) (g (fun c z=>req c z) (fun x=>some (res x)) which f liars):=by
 unfold g
 with_reducible repeat (first|(apply J.lt; intro _)|apply J.rq|apply J.bif|exact J.rt rfl)
theorem bZ:Nonempty (Told E0 D tab Tryz.f8.ntmps (aI (codeOf Tryz.f8) 0) 117 sh0 bx0 bA bn bB lf0):=fH (sh:=sh0) (bx:=bx0) (ord:=bA) (shR:=bn) (bxR:=bB) cO (by kernel_rfl) (by kernel_rfl) (by kernel_rfl) [1] _ _ _ @g0 (fun _ _ _ _ _=>by kernel_rfl) (by
  intro _ _ _ _ _ _ _ h i k x y
  simp only [g0]
  with_reducible repeat (first|(apply J.lt; intro _)|apply J.rq|apply J.bif|exact h _ _|exact i _ (by decide) _ _|exact k (by decide) _ _))
theorem cu:fJ E0 D tab Tryz.f8.ntmps (codeOf Tryz.f8):=bU (bs:= [aI (codeOf Tryz.f8) 0]) (by kernel_rfl) (aG (bN (by kernel_rfl) (bZ)) aT)
theorem ok:mH Tryz.f8=true:=by kernel_rfl
abbrev aS:List AS:= [.one (.val (.int .i64)),.one (.val (.sl (.arr 4 (.int .u64)))),.one (.val (.int .i64))]
abbrev bS:List Ty:= []
def F (x:ASs aS) (y:Bs bS):Brn Res:=brn (r x.1 x.2.1 x.2.2.1)
theorem good (x:ASs aS) (y:Bs bS) (h:(F x y).res.1=true):Good Tryz.prog 8 (ASs.mk aS x) (Bs.mk bS y) (F x y).res.2:=
 eH hE0 (ay _) Tryz.func8 ok cu bK (run x.1 x.2.1 x.2.2.1) (rel x.1 x.2.1 x.2.2.1) h
def ent:Ent Tryz.prog:=⟨8,shF aS bS F,bC good⟩
end aC
end Go.Own
