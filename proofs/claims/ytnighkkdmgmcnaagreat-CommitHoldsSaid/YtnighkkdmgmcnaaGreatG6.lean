/- What functions compute, printed by wip/gen/gen2.py. -/
import Derived.Test.YtnighkkdmgmcnaaGreatG5
set_option linter.unusedVariables false
set_option linter.unusedSimpArgs false
set_option maxRecDepth 100000
noncomputable section
namespace Go.Own
open Go.Proofs Go.Proofs.YtnighkkdmgmcnaaGreat
namespace mO
abbrev X:Type:=(List Int)
def res (x:(List Int)):Res:=⟨[.val ⟨.arr 4 (.int .u64),x⟩],[],[]⟩
def g {Z:Type} (rq:Bool→Z→Z) (rt:X→Z) (gx:(Option af)) (a:(List Int)) (b:(List Int)):Z:=
lt (fZ.r gx) fun w1464=>
rq w1464.1<|
lt (iN.r a b w1464.2) fun w1465=>
rq w1465.1<|
rt w1465.2.1
def r (gx:(Option af)) (a:(List Int)) (b:(List Int)):Bool×X:=g chk (fun x=>(true,x)) gx a b
def D:aH:=Dof (P:=Tryz.prog) [fZ.ent,iN.ent]
def tab:List (Nat×LE Res):= []
abbrev aS:List AS:= [.one (.val (.ref ak)),.one (.val (.arr 4 (.int .u64))),.one (.val (.arr 4 (.int .u64)))]
abbrev bS:List Ty:= []
def ent:Ent Tryz.prog:=bH (D:=D) (tab:=tab) hE0 (ay _) [true] Tryz.func112 (by kernel_rfl) aC aS bS res (fun x y=>r x.1 x.2.1 x.2.2.1) (fun x y=>g (fun c z=>req c z) (fun x=>some (res x)) x.1 x.2.1 x.2.2.1) (fun _ _=>by kernel_rfl) (by
 intro x y
 show J _ (g chk (fun x=>(true,x)) x.1 x.2.1 x.2.2.1) (g (fun c z=>req c z) (fun x=>some (res x)) x.1 x.2.1 x.2.2.1)
 unfold g
 with_reducible repeat (first|(apply J.lt; intro _)|apply J.rq|apply J.bif|exact J.rt rfl))
end mO
namespace iw
abbrev X:Type:=(List Int)×Int
def res (x:(List Int)×Int):Res:=⟨[.val ⟨.arr 4 (.int .u64),x.1⟩,.val ⟨.int .i64,x.2⟩],[],[]⟩
abbrev sh0:List (Nat×Sh):= [(3,.pb 500000 (.arr 4 (.int .u64)) []),(4,.pb 500001 (.arr 4 (.int .u64)) []),(5,.p (.int .i64)),(6,.pb 500002 (.arr 4 (.int .u64)) []),(8,.pb 500003 (.arr 4 (.int .u64)) []),(9,.pb 500004 (.arr 4 (.int .u64)) []),(10,.pb 500005 (.arr 4 (.int .u64)) [])]
abbrev bx0:List (Nat×Ty):= [(500000,.arr 4 (.int .u64)),(500001,.arr 4 (.int .u64)),(500002,.arr 4 (.int .u64)),(500003,.arr 4 (.int .u64)),(500004,.arr 4 (.int .u64)),(500005,.arr 4 (.int .u64))]
abbrev aY:List (Nat×Ty):= [(500000,.arr 4 (.int .u64)),(500001,.arr 4 (.int .u64)),(500002,.arr 4 (.int .u64)),(500003,.arr 4 (.int .u64)),(500004,.arr 4 (.int .u64)),(500005,.arr 4 (.int .u64))]
abbrev aX:List (Nat×Sh):= []
abbrev aZ:List (Nat×Ty):= []
abbrev bX:List (Nat×Ty):= []
abbrev X0:Type:=Unit×Unit×Int×Unit×Unit×Unit×Unit×Unit
abbrev Y0:Type:=(List Int)×(List Int)×(List Int)×(List Int)×(List Int)×(List Int)×Unit
abbrev U0:Type:=Unit
abbrev V0:Type:=Unit
def g0 {Z:Type} (rq:Bool→Z→Z) (kn:X0→Y0→Z) (ke:Nat→X0→Y0→Z) (kr:U0→V0→Z) (x:X0) (y:Y0):Z:=
lt (!(ieq (y.2.2.1.getD 0 0) 0&&(ieq (y.2.2.1.getD 1 0) 0&&(ieq (y.2.2.1.getD 2 0) 0&&(ieq (y.2.2.1.getD 3 0) 0&&true))))) fun (v1474:Bool)=>
bif v1474 then
lt (lT.r y.2.2.2.1 y.2.2.1) fun w1475=>
rq w1475.1<|
lt (jQ.r w1475.2.1 y.2.2.2.2.2.1 y.1) fun w1476=>
rq w1476.1<|
lt (iN.r y.2.2.2.2.1 w1476.2.1 y.1) fun w1477=>
rq w1477.1<|
kn ((),(),x.2.2.1,(),(),(),(),()) (y.1,y.2.1,w1475.2.2.1,y.2.2.1,y.2.2.2.2.2.1,w1477.2.1,())
else
ke 0 ((),(),x.2.2.1,(),(),(),(),()) (y.1,y.2.1,y.2.2.1,y.2.2.2.1,y.2.2.2.2.1,y.2.2.2.2.2.1,())
def fu0 (x:X0) (y:Y0):Nat:=u6
def l0 (x:X0) (y:Y0):Bool×Nat×X0×Y0×U0×V0:=rounds (fun rq kn ke kr x y=>g0 rq kn ke kr x y) () () (fu0 x y) x y
def g {Z:Type} (rq:Bool→Z→Z) (rt:X→Z) (a:(List Int)) (m:(List Int)):Z:=
lt (dM.r 2) fun w1468=>
rq w1468.1<|
lt (jJ.r m w1468.2) fun w1469=>
rq w1469.1<|
lt (ilt w1469.2 0) fun v1470=>
bif v1470 then
rt ([0,0,0,0],1)
else
lt (gM.r a [0,0,0,0] m) fun w1471=>
rq w1471.1<|
lt (dM.r 1) fun w1472=>
rq w1472.1<|
lt (iw.l0 ((),(),0,(),(),(),(),()) (m,[0,0,0,0],w1471.2.1,m,[0,0,0,0],w1472.2,())) fun w1478=>
rq w1478.1<|
lt (dM.r 1) fun w1479=>
rq w1479.1<|
lt (!(ieq (w1478.2.2.2.1.2.2.2.1.getD 0 0) (w1479.2.getD 0 0)&&(ieq (w1478.2.2.2.1.2.2.2.1.getD 1 0) (w1479.2.getD 1 0)&&(ieq (w1478.2.2.2.1.2.2.2.1.getD 2 0) (w1479.2.getD 2 0)&&(ieq (w1478.2.2.2.1.2.2.2.1.getD 3 0) (w1479.2.getD 3 0)&&true))))) fun (v1480:Bool)=>
bif v1480 then
rt ([0,0,0,0],3)
else
rt (w1478.2.2.2.1.2.2.2.2.1,0)
def r (a:(List Int)) (m:(List Int)):Bool×X:=g chk (fun x=>(true,x)) a m
def D:aH:=Dof (P:=Tryz.prog) [dM.ent,jJ.ent,gM.ent,lT.ent,jQ.ent,iN.ent]
abbrev lf0:=dw (R:=Res) [1] (rounds (fun rq kn ke kr x y=>g0 rq kn ke kr x y) () ()) fu0
def tab:List (Nat×LE Res):= [(6,.typed (eY 66 sh0 bx0 aY aX aZ (lf0)))]
theorem bV:Nonempty (Told E0 D tab Tryz.f141.ntmps (aG (codeOf Tryz.f141) 0) 66 sh0 bx0 aY aX aZ lf0):=fH (sh:=sh0) (bx:=bx0) (ord:=aY) (shR:=aX) (bxR:=aZ) bX (by kernel_rfl) (by kernel_rfl) (by kernel_rfl) [1] _ _ _ @g0 (fun _ _ _ _ _=>by kernel_rfl) (by
  intro _ _ _ _ _ _ _ h i k x y
  simp only [g0]
  with_reducible repeat (first|(apply J.lt; intro _)|apply J.rq|apply J.bif|exact h _ _|exact i _ (by decide) _ _|exact k (by decide) _ _))
theorem bW:fQ E0 D tab Tryz.f141.ntmps (codeOf Tryz.f141):=bT (bs:= [aG (codeOf Tryz.f141) 0]) (by kernel_rfl) (aF (bP (by kernel_rfl) (bV)) aO)
abbrev aS:List AS:= [.one (.val (.arr 4 (.int .u64))),.one (.val (.arr 4 (.int .u64)))]
abbrev bS:List Ty:= []
def ent:Ent Tryz.prog:=bH (D:=D) (tab:=tab) hE0 (ay _) [true,true] Tryz.func141 (by kernel_rfl) bW aS bS res (fun x y=>r x.1 x.2.1) (fun x y=>g (fun c z=>req c z) (fun x=>some (res x)) x.1 x.2.1) (fun _ _=>by kernel_rfl) (by
 intro x y
 show J _ (g chk (fun x=>(true,x)) x.1 x.2.1) (g (fun c z=>req c z) (fun x=>some (res x)) x.1 x.2.1)
 unfold g
 with_reducible repeat (first|(apply J.lt; intro _)|apply J.rq|apply J.bif|exact J.rt rfl))
end iw
namespace pJ
abbrev X:Type:=(List Int)
def res (x:(List Int)):Res:=⟨[.val ⟨.arr 4 (.int .u64),x⟩],[],[]⟩
def g {Z:Type} (rq:Bool→Z→Z) (rt:X→Z) (gx:(Option af)) (a:(List Int)):Z:=
lt (fZ.r gx) fun w1467=>
rq w1467.1<|
lt (iw.r a w1467.2) fun w1481=>
rq w1481.1<|
lt (w1481.2.2 != 0) fun (v1482:Bool)=>
bif v1482 then
rt [0,0,0,0]
else
rt w1481.2.1
def r (gx:(Option af)) (a:(List Int)):Bool×X:=g chk (fun x=>(true,x)) gx a
def D:aH:=Dof (P:=Tryz.prog) [fZ.ent,iw.ent]
def tab:List (Nat×LE Res):= []
abbrev aS:List AS:= [.one (.val (.ref ak)),.one (.val (.arr 4 (.int .u64)))]
abbrev bS:List Ty:= []
def ent:Ent Tryz.prog:=bH (D:=D) (tab:=tab) hE0 (ay _) [true] Tryz.func115 (by kernel_rfl) aC aS bS res (fun x y=>r x.1 x.2.1) (fun x y=>g (fun c z=>req c z) (fun x=>some (res x)) x.1 x.2.1) (fun _ _=>by kernel_rfl) (by
 intro x y
 show J _ (g chk (fun x=>(true,x)) x.1 x.2.1) (g (fun c z=>req c z) (fun x=>some (res x)) x.1 x.2.1)
 unfold g
 with_reducible repeat (first|(apply J.lt; intro _)|apply J.rq|apply J.bif|exact J.rt rfl))
end pJ
namespace nu
abbrev X:Type:=(List Int)
def res (x:(List Int)):Res:=⟨[.val ⟨.arr 4 (.int .u64),x⟩],[],[]⟩
def g {Z:Type} (rq:Bool→Z→Z) (rt:X→Z) (f:(List (List Int))) (kx:Int):Z:=
lt (ilt kx 0) fun v1490=>
bif v1490 then
rt [0,0,0,0]
else
lt (f.length:Int) fun (v1491:Int)=>
lt (ile v1491 kx) fun v1492=>
bif v1492 then
rt [0,0,0,0]
else
lt (f.getD kx.toNat [0,0,0,0]) fun (v1493:(List Int))=>
rq (ile (0:Int) kx&&ilt kx (f.length:Int))<|
rt v1493
def r (f:(List (List Int))) (kx:Int):Bool×X:=g chk (fun x=>(true,x)) f kx
def D:aH:=Dof (P:=Tryz.prog) []
def tab:List (Nat×LE Res):= []
abbrev aS:List AS:= [.one (.val (.sl (.arr 4 (.int .u64)))),.one (.val (.int .i64))]
abbrev bS:List Ty:= []
def ent:Ent Tryz.prog:=bH (D:=D) (tab:=tab) hE0 (ay _) [true] Tryz.func139 (by kernel_rfl) aC aS bS res (fun x y=>r x.1 x.2.1) (fun x y=>g (fun c z=>req c z) (fun x=>some (res x)) x.1 x.2.1) (fun _ _=>by kernel_rfl) (by
 intro x y
 show J _ (g chk (fun x=>(true,x)) x.1 x.2.1) (g (fun c z=>req c z) (fun x=>some (res x)) x.1 x.2.1)
 unfold g
 with_reducible repeat (first|(apply J.lt; intro _)|apply J.rq|apply J.bif|exact J.rt rfl))
end nu
namespace kF
abbrev X:Type:=(List Int)×(Option af)×(List (List Int))×Int×(List Int)
def res (x:(List Int)×(Option af)×(List (List Int))×Int×(List Int)):Res:=⟨[.val ⟨.arr 4 (.int .u64),x.1⟩],[some ⟨.ref ak,x.2.1⟩,some ⟨.sl (.arr 4 (.int .u64)),x.2.2.1⟩,some ⟨.int .i64,x.2.2.2.1⟩,some ⟨.arr 4 (.int .u64),x.2.2.2.2⟩],[]⟩
def g {Z:Type} (rq:Bool→Z→Z) (rt:X→Z) (kx:Int) (b:(Option af)) (bx:(List (List Int))) (bx1:Int) (bx11:(List Int)):Z:=
lt (IntKind.i64.wrap (kx - bx1)) fun v1489=>
lt (nu.r bx v1489) fun w1494=>
rq w1494.1<|
lt (gY.r b w1494.2 bx11) fun w1495=>
rq w1495.1<|
rt (w1495.2,b,bx,bx1,bx11)
def r (kx:Int) (b:(Option af)) (bx:(List (List Int))) (bx1:Int) (bx11:(List Int)):Bool×X:=g chk (fun x=>(true,x)) kx b bx bx1 bx11
def D:aH:=Dof (P:=Tryz.prog) [nu.ent,gY.ent]
def tab:List (Nat×LE Res):= []
abbrev aS:List AS:= [.one (.val (.int .i64)),.one (.pb 1000000 (.ref ak) []),.one (.pb 1000001 (.sl (.arr 4 (.int .u64))) []),.one (.pb 1000002 (.int .i64) []),.one (.pb 1000003 (.arr 4 (.int .u64)) [])]
abbrev bS:List Ty:= [.ref ak,.sl (.arr 4 (.int .u64)),.int .i64,.arr 4 (.int .u64)]
def ent:Ent Tryz.prog:=bH (D:=D) (tab:=tab) hE0 (ay _) [true] Tryz.func140 (by kernel_rfl) aC aS bS res (fun x y=>r x.1 y.1 y.2.1 y.2.2.1 y.2.2.2.1) (fun x y=>g (fun c z=>req c z) (fun x=>some (res x)) x.1 y.1 y.2.1 y.2.2.1 y.2.2.2.1) (fun _ _=>by kernel_rfl) (by
 intro x y
 show J _ (g chk (fun x=>(true,x)) x.1 y.1 y.2.1 y.2.2.1 y.2.2.2.1) (g (fun c z=>req c z) (fun x=>some (res x)) x.1 y.1 y.2.1 y.2.2.1 y.2.2.2.1)
 unfold g
 with_reducible repeat (first|(apply J.lt; intro _)|apply J.rq|apply J.bif|exact J.rt rfl))
end kF
namespace jM
abbrev X:Type:=Nat×((Option af)×(List (List Int))×Int×(List Int))×(Nat×Nat×(Option af)×(List (List Int))×Int×(List Int)×(Bool×List (List Int)))
def rH (x:(Option af)×(List (List Int))×Int×(List Int)):Res:=⟨[.nil],[some ⟨.ref ak,x.1⟩,some ⟨.sl (.arr 4 (.int .u64)),x.2.1⟩,some ⟨.int .i64,x.2.2.1⟩,some ⟨.arr 4 (.int .u64),x.2.2.2⟩],[]⟩
def rG (x:Nat×Nat×(Option af)×(List (List Int))×Int×(List Int)×(Bool×List (List Int))):Res:=⟨[.vs 1000004 (.arr 4 (.int .u64)) [] x.1 x.2.1],[some ⟨.ref ak,x.2.2.1⟩,some ⟨.sl (.arr 4 (.int .u64)),x.2.2.2.1⟩,some ⟨.int .i64,x.2.2.2.2.1⟩,some ⟨.arr 4 (.int .u64),x.2.2.2.2.2.1⟩],[⟨.dyn (.arr 4 (.int .u64)),x.2.2.2.2.2.2⟩]⟩
def res (x:X):Res:=bif Nat.beq x.1 0 then rH x.2.1 else (rG x.2.2)
def brn (w:Bool×X):Brn Res:= .ite (Nat.beq w.2.1 0) (.one w.1 (rH w.2.2.1)) (.one w.1 (rG w.2.2.2))
theorem cB (w:Bool×X):(brn w).res=(w.1,res w.2):=by
 cases h0:Nat.beq w.2.1 0 with
 |true=>simp only [brn,res,Brn.res,h0,cond_true,cond_false]
 |false=>
  simp only [brn,res,Brn.res,h0,cond_true,cond_false]
abbrev sh0:List (Nat×Sh):= [(0,.p (.ref ak)),(2,.clo 140 [(1000000,.ref ak),(1000001,.sl (.arr 4 (.int .u64))),(1000002,.int .i64),(1000003,.arr 4 (.int .u64))]),(6,.nil),(7,.va 500000 (.arr 4 (.int .u64))),(9,.p (.int .i64)),(10,.p (.int .i64))]
abbrev bx0:List (Nat×Ty):= [(500000,.dyn (.arr 4 (.int .u64))),(1000000,.ref ak),(1000001,.sl (.arr 4 (.int .u64))),(1000002,.int .i64),(1000003,.arr 4 (.int .u64))]
abbrev aY:List (Nat×Ty):= [(500000,.dyn (.arr 4 (.int .u64))),(1000000,.ref ak),(1000001,.sl (.arr 4 (.int .u64))),(1000002,.int .i64),(1000003,.arr 4 (.int .u64))]
abbrev aX:List (Nat×Sh):= []
abbrev aZ:List (Nat×Ty):= []
abbrev bX:List (Nat×Ty):= []
abbrev X0:Type:=(Option af)×Unit×Unit×Unit×Int×Int×Unit
abbrev Y0:Type:=(Bool×List (List Int))×(Option af)×(List (List Int))×Int×(List Int)×Unit
abbrev U0:Type:=Unit
abbrev V0:Type:=Unit
def g0 {Z:Type} (rq:Bool→Z→Z) (kn:X0→Y0→Z) (ke:Nat→X0→Y0→Z) (kr:U0→V0→Z) (x:X0) (y:Y0):Z:=
lt (ilt x.2.2.2.2.2.1 x.2.2.2.2.1) fun v1498=>
bif v1498 then
lt (kF.r x.2.2.2.2.2.1 y.2.1 y.2.2.1 y.2.2.2.1 y.2.2.2.2.1) fun w1499=>
rq w1499.1<|
lt (y.1.1&&false) fun (v1500:Bool)=>
lt (y.1.2++ [w1499.2.1]) fun (v1501:(List (List Int)))=>
rq (nle ((2*(y.1.2.length+1)+512)*32) 70368744177664)<|
lt (IntKind.i64.wrap (x.2.2.2.2.2.1+1)) fun v1502=>
kn (x.1,(),(),(),x.2.2.2.2.1,v1502,()) ((v1500,v1501),w1499.2.2.1,w1499.2.2.2.1,w1499.2.2.2.2.1,w1499.2.2.2.2.2,())
else
ke 0 (x.1,(),(),(),x.2.2.2.2.1,x.2.2.2.2.2.1,()) (y.1,y.2.1,y.2.2.1,y.2.2.2.1,y.2.2.2.2.1,())
def fu0 (x:X0) (y:Y0):Nat:=(x.2.2.2.2.1 - x.2.2.2.2.2.1).toNat+1
def l0 (x:X0) (y:Y0):Bool×Nat×X0×Y0×U0×V0:=rounds (fun rq kn ke kr x y=>g0 rq kn ke kr x y) () () (fu0 x y) x y
def g {Z:Type} (rq:Bool→Z→Z) (rt:X→Z) (gx:(Option af)) (n:Int) (b:(Option af)) (bx:(List (List Int))) (bx1:Int) (bx11:(List Int)):Z:=
lt (jM.l0 (gx,(),(),(),n,0,()) ((true,[]),b,bx,bx1,bx11,())) fun w1503=>
rq w1503.1<|
lt (eO.r w1503.2.2.1.1 w1503.2.2.2.1.1.2) fun w1504=>
bif Nat.beq w1504.2.1 0 then
rq w1504.1<|
rt (0,(w1503.2.2.2.1.2.1,w1503.2.2.2.1.2.2.1,w1503.2.2.2.1.2.2.2.1,w1503.2.2.2.1.2.2.2.2.1),(0,0,none,[],0,[0,0,0,0],(true,[])))
else
rq w1504.1<|
rt (1,(none,[],0,[0,0,0,0]),(w1504.2.2.2.1,w1504.2.2.2.2.1,w1503.2.2.2.1.2.1,w1503.2.2.2.1.2.2.1,w1503.2.2.2.1.2.2.2.1,w1503.2.2.2.1.2.2.2.2.1,w1504.2.2.2.2.2))
def r (gx:(Option af)) (n:Int) (b:(Option af)) (bx:(List (List Int))) (bx1:Int) (bx11:(List Int)):Bool×X:=g chk (fun x=>(true,x)) gx n b bx bx1 bx11
def D:aH:=Dof (P:=Tryz.prog) [kF.ent,eO.ent]
abbrev lf0:=dw (R:=Res) [1] (rounds (fun rq kn ke kr x y=>g0 rq kn ke kr x y) () ()) fu0
def tab:List (Nat×LE Res):= [(4,.typed (eY 23 sh0 bx0 aY aX aZ (lf0)))]
theorem run (gx:(Option af)) (n:Int) (b:(Option af)) (bx:(List (List Int))) (bx1:Int) (bx11:(List Int)):gL E0 [false] D (iG E0 D tab 9) Tryz.f137 (codeOf Tryz.f137) [.val ⟨.ref ak,gx⟩,.val ⟨.int .i64,n⟩,.clo 140 [.pb 1000000 (.ref ak) [],.pb 1000001 (.sl (.arr 4 (.int .u64))) [],.pb 1000002 (.int .i64) [],.pb 1000003 (.arr 4 (.int .u64)) []]] [⟨.ref ak,b⟩,⟨.sl (.arr 4 (.int .u64)),bx⟩,⟨.int .i64,bx1⟩,⟨.arr 4 (.int .u64),bx11⟩]=g (fun c z=>req c z) (fun x=>some (res x)) gx n b bx bx1 bx11:=by kernel_rfl
theorem rel (gx:(Option af)) (n:Int) (b:(Option af)) (bx:(List (List Int))) (bx1:Int) (bx11:(List Int)):J (fun w z=>z=some (res w)) (g chk (fun x=>(true,x)) gx n b bx bx1 bx11) (g (fun c z=>req c z) (fun x=>some (res x)) gx n b bx bx1 bx11):=by
 unfold g
 with_reducible repeat (first|(apply J.lt; intro _)|apply J.rq|apply J.bif|exact J.rt rfl)
theorem bV:Nonempty (Told E0 D tab Tryz.f137.ntmps (aG (codeOf Tryz.f137) 0) 23 sh0 bx0 aY aX aZ lf0):=fH (sh:=sh0) (bx:=bx0) (ord:=aY) (shR:=aX) (bxR:=aZ) bX (by kernel_rfl) (by kernel_rfl) (by kernel_rfl) [1] _ _ _ @g0 (fun _ _ _ _ _=>by kernel_rfl) (by
  intro _ _ _ _ _ _ _ h i k x y
  simp only [g0]
  with_reducible repeat (first|(apply J.lt; intro _)|apply J.rq|apply J.bif|exact h _ _|exact i _ (by decide) _ _|exact k (by decide) _ _))
theorem bW:fQ E0 D tab Tryz.f137.ntmps (codeOf Tryz.f137):=bT (bs:= [aG (codeOf Tryz.f137) 0]) (by kernel_rfl) (aF (bP (by kernel_rfl) (bV)) aO)
theorem ok:nA Tryz.f137=true:=by kernel_rfl
abbrev aS:List AS:= [.one (.val (.ref ak)),.one (.val (.int .i64)),.clo 140 [.pb 1000000 (.ref ak) [],.pb 1000001 (.sl (.arr 4 (.int .u64))) [],.pb 1000002 (.int .i64) [],.pb 1000003 (.arr 4 (.int .u64)) []]]
abbrev bS:List Ty:= [.ref ak,.sl (.arr 4 (.int .u64)),.int .i64,.arr 4 (.int .u64)]
def F (x:ASs aS) (y:Bs bS):Brn Res:=brn (r x.1 x.2.1 y.1 y.2.1 y.2.2.1 y.2.2.2.1)
theorem good (x:ASs aS) (y:Bs bS) (h:(F x y).res.1=true):Good Tryz.prog 137 (ASs.mk aS x) (Bs.mk bS y) (F x y).res.2:=
 fP hE0 (ay _) Tryz.func137 ok bW cB (run x.1 x.2.1 y.1 y.2.1 y.2.2.1 y.2.2.2.1) (rel x.1 x.2.1 y.1 y.2.1 y.2.2.1 y.2.2.2.1) h
def ent:Ent Tryz.prog:=⟨137,shF aS bS F,bM good⟩
end jM
namespace mK
abbrev X:Type:=(List (List Int))
def res (x:(List (List Int))):Res:=⟨[.val ⟨.sl (.arr 4 (.int .u64)),x⟩],[],[]⟩
def g {Z:Type} (rq:Bool→Z→Z) (rt:X→Z) (gx:(Option af)) (f:(List (List Int))) (byx:(List Int)) (up:Int):Z:=
lt (f.length:Int) fun (v1485:Int)=>
lt (IntKind.i64.wrap (v1485+up)) fun v1486=>
lt (jM.r gx v1486 gx f up byx) fun w1505=>
bif Nat.beq w1505.2.1 0 then
rq w1505.1<|
rt []
else
rq w1505.1<|
rt ((w1505.2.2.2.2.2.2.2.2.2.2.drop w1505.2.2.2.1).take w1505.2.2.2.2.1)
def r (gx:(Option af)) (f:(List (List Int))) (byx:(List Int)) (up:Int):Bool×X:=g chk (fun x=>(true,x)) gx f byx up
def D:aH:=Dof (P:=Tryz.prog) [jM.ent]
def tab:List (Nat×LE Res):= []
abbrev aS:List AS:= [.one (.val (.ref ak)),.one (.val (.sl (.arr 4 (.int .u64)))),.one (.val (.arr 4 (.int .u64))),.one (.val (.int .i64))]
abbrev bS:List Ty:= []
def ent:Ent Tryz.prog:=bH (D:=D) (tab:=tab) hE0 (ay _) [true] Tryz.func114 (by kernel_rfl) aC aS bS res (fun x y=>r x.1 x.2.1 x.2.2.1 x.2.2.2.1) (fun x y=>g (fun c z=>req c z) (fun x=>some (res x)) x.1 x.2.1 x.2.2.1 x.2.2.2.1) (fun _ _=>by kernel_rfl) (by
 intro x y
 show J _ (g chk (fun x=>(true,x)) x.1 x.2.1 x.2.2.1 x.2.2.2.1) (g (fun c z=>req c z) (fun x=>some (res x)) x.1 x.2.1 x.2.2.1 x.2.2.2.1)
 unfold g
 with_reducible repeat (first|(apply J.lt; intro _)|apply J.rq|apply J.bif|exact J.rt rfl))
end mK
namespace nW
abbrev X:Type:=(List Int)×(Option af)×(List (List Int))×(List (List Int))
def res (x:(List Int)×(Option af)×(List (List Int))×(List (List Int))):Res:=⟨[.val ⟨.arr 4 (.int .u64),x.1⟩],[some ⟨.ref ak,x.2.1⟩,some ⟨.sl (.arr 4 (.int .u64)),x.2.2.1⟩,some ⟨.sl (.arr 4 (.int .u64)),x.2.2.2⟩],[]⟩
def g {Z:Type} (rq:Bool→Z→Z) (rt:X→Z) (kx:Int) (b:(Option af)) (bx:(List (List Int))) (bx1:(List (List Int))):Z:=
lt (nu.r bx kx) fun w1512=>
rq w1512.1<|
lt (nu.r bx1 kx) fun w1513=>
rq w1513.1<|
lt (gZ.r b w1512.2 w1513.2) fun w1514=>
rq w1514.1<|
rt (w1514.2,b,bx,bx1)
def r (kx:Int) (b:(Option af)) (bx:(List (List Int))) (bx1:(List (List Int))):Bool×X:=g chk (fun x=>(true,x)) kx b bx bx1
def D:aH:=Dof (P:=Tryz.prog) [nu.ent,gZ.ent]
def tab:List (Nat×LE Res):= []
abbrev aS:List AS:= [.one (.val (.int .i64)),.one (.pb 1000000 (.ref ak) []),.one (.pb 1000001 (.sl (.arr 4 (.int .u64))) []),.one (.pb 1000002 (.sl (.arr 4 (.int .u64))) [])]
abbrev bS:List Ty:= [.ref ak,.sl (.arr 4 (.int .u64)),.sl (.arr 4 (.int .u64))]
def ent:Ent Tryz.prog:=bH (D:=D) (tab:=tab) hE0 (ay _) [true] Tryz.func138 (by kernel_rfl) aC aS bS res (fun x y=>r x.1 y.1 y.2.1 y.2.2.1) (fun x y=>g (fun c z=>req c z) (fun x=>some (res x)) x.1 y.1 y.2.1 y.2.2.1) (fun _ _=>by kernel_rfl) (by
 intro x y
 show J _ (g chk (fun x=>(true,x)) x.1 y.1 y.2.1 y.2.2.1) (g (fun c z=>req c z) (fun x=>some (res x)) x.1 y.1 y.2.1 y.2.2.1)
 unfold g
 with_reducible repeat (first|(apply J.lt; intro _)|apply J.rq|apply J.bif|exact J.rt rfl))
end nW
namespace gU
abbrev X:Type:=Nat×((Option af)×(List (List Int))×(List (List Int)))×(Nat×Nat×(Option af)×(List (List Int))×(List (List Int))×(Bool×List (List Int)))
def rH (x:(Option af)×(List (List Int))×(List (List Int))):Res:=⟨[.nil],[some ⟨.ref ak,x.1⟩,some ⟨.sl (.arr 4 (.int .u64)),x.2.1⟩,some ⟨.sl (.arr 4 (.int .u64)),x.2.2⟩],[]⟩
def rG (x:Nat×Nat×(Option af)×(List (List Int))×(List (List Int))×(Bool×List (List Int))):Res:=⟨[.vs 1000003 (.arr 4 (.int .u64)) [] x.1 x.2.1],[some ⟨.ref ak,x.2.2.1⟩,some ⟨.sl (.arr 4 (.int .u64)),x.2.2.2.1⟩,some ⟨.sl (.arr 4 (.int .u64)),x.2.2.2.2.1⟩],[⟨.dyn (.arr 4 (.int .u64)),x.2.2.2.2.2⟩]⟩
def res (x:X):Res:=bif Nat.beq x.1 0 then rH x.2.1 else (rG x.2.2)
def brn (w:Bool×X):Brn Res:= .ite (Nat.beq w.2.1 0) (.one w.1 (rH w.2.2.1)) (.one w.1 (rG w.2.2.2))
theorem cB (w:Bool×X):(brn w).res=(w.1,res w.2):=by
 cases h0:Nat.beq w.2.1 0 with
 |true=>simp only [brn,res,Brn.res,h0,cond_true,cond_false]
 |false=>
  simp only [brn,res,Brn.res,h0,cond_true,cond_false]
abbrev sh0:List (Nat×Sh):= [(0,.p (.ref ak)),(2,.clo 138 [(1000000,.ref ak),(1000001,.sl (.arr 4 (.int .u64))),(1000002,.sl (.arr 4 (.int .u64)))]),(6,.nil),(7,.va 500000 (.arr 4 (.int .u64))),(9,.p (.int .i64)),(10,.p (.int .i64))]
abbrev bx0:List (Nat×Ty):= [(500000,.dyn (.arr 4 (.int .u64))),(1000000,.ref ak),(1000001,.sl (.arr 4 (.int .u64))),(1000002,.sl (.arr 4 (.int .u64)))]
abbrev aY:List (Nat×Ty):= [(500000,.dyn (.arr 4 (.int .u64))),(1000000,.ref ak),(1000001,.sl (.arr 4 (.int .u64))),(1000002,.sl (.arr 4 (.int .u64)))]
abbrev aX:List (Nat×Sh):= []
abbrev aZ:List (Nat×Ty):= []
abbrev bX:List (Nat×Ty):= []
abbrev X0:Type:=(Option af)×Unit×Unit×Unit×Int×Int×Unit
abbrev Y0:Type:=(Bool×List (List Int))×(Option af)×(List (List Int))×(List (List Int))×Unit
abbrev U0:Type:=Unit
abbrev V0:Type:=Unit
def g0 {Z:Type} (rq:Bool→Z→Z) (kn:X0→Y0→Z) (ke:Nat→X0→Y0→Z) (kr:U0→V0→Z) (x:X0) (y:Y0):Z:=
lt (ilt x.2.2.2.2.2.1 x.2.2.2.2.1) fun v1517=>
bif v1517 then
lt (nW.r x.2.2.2.2.2.1 y.2.1 y.2.2.1 y.2.2.2.1) fun w1518=>
rq w1518.1<|
lt (y.1.1&&false) fun (v1519:Bool)=>
lt (y.1.2++ [w1518.2.1]) fun (v1520:(List (List Int)))=>
rq (nle ((2*(y.1.2.length+1)+512)*32) 70368744177664)<|
lt (IntKind.i64.wrap (x.2.2.2.2.2.1+1)) fun v1521=>
kn (x.1,(),(),(),x.2.2.2.2.1,v1521,()) ((v1519,v1520),w1518.2.2.1,w1518.2.2.2.1,w1518.2.2.2.2,())
else
ke 0 (x.1,(),(),(),x.2.2.2.2.1,x.2.2.2.2.2.1,()) (y.1,y.2.1,y.2.2.1,y.2.2.2.1,())
def fu0 (x:X0) (y:Y0):Nat:=(x.2.2.2.2.1 - x.2.2.2.2.2.1).toNat+1
def l0 (x:X0) (y:Y0):Bool×Nat×X0×Y0×U0×V0:=rounds (fun rq kn ke kr x y=>g0 rq kn ke kr x y) () () (fu0 x y) x y
def g {Z:Type} (rq:Bool→Z→Z) (rt:X→Z) (gx:(Option af)) (n:Int) (b:(Option af)) (bx:(List (List Int))) (bx1:(List (List Int))):Z:=
lt (gU.l0 (gx,(),(),(),n,0,()) ((true,[]),b,bx,bx1,())) fun w1522=>
rq w1522.1<|
lt (eO.r w1522.2.2.1.1 w1522.2.2.2.1.1.2) fun w1523=>
bif Nat.beq w1523.2.1 0 then
rq w1523.1<|
rt (0,(w1522.2.2.2.1.2.1,w1522.2.2.2.1.2.2.1,w1522.2.2.2.1.2.2.2.1),(0,0,none,[],[],(true,[])))
else
rq w1523.1<|
rt (1,(none,[],[]),(w1523.2.2.2.1,w1523.2.2.2.2.1,w1522.2.2.2.1.2.1,w1522.2.2.2.1.2.2.1,w1522.2.2.2.1.2.2.2.1,w1523.2.2.2.2.2))
def r (gx:(Option af)) (n:Int) (b:(Option af)) (bx:(List (List Int))) (bx1:(List (List Int))):Bool×X:=g chk (fun x=>(true,x)) gx n b bx bx1
def D:aH:=Dof (P:=Tryz.prog) [nW.ent,eO.ent]
abbrev lf0:=dw (R:=Res) [1] (rounds (fun rq kn ke kr x y=>g0 rq kn ke kr x y) () ()) fu0
def tab:List (Nat×LE Res):= [(4,.typed (eY 23 sh0 bx0 aY aX aZ (lf0)))]
theorem run (gx:(Option af)) (n:Int) (b:(Option af)) (bx:(List (List Int))) (bx1:(List (List Int))):gL E0 [false] D (iG E0 D tab 9) Tryz.f137 (codeOf Tryz.f137) [.val ⟨.ref ak,gx⟩,.val ⟨.int .i64,n⟩,.clo 138 [.pb 1000000 (.ref ak) [],.pb 1000001 (.sl (.arr 4 (.int .u64))) [],.pb 1000002 (.sl (.arr 4 (.int .u64))) []]] [⟨.ref ak,b⟩,⟨.sl (.arr 4 (.int .u64)),bx⟩,⟨.sl (.arr 4 (.int .u64)),bx1⟩]=g (fun c z=>req c z) (fun x=>some (res x)) gx n b bx bx1:=by kernel_rfl
theorem rel (gx:(Option af)) (n:Int) (b:(Option af)) (bx:(List (List Int))) (bx1:(List (List Int))):J (fun w z=>z=some (res w)) (g chk (fun x=>(true,x)) gx n b bx bx1) (g (fun c z=>req c z) (fun x=>some (res x)) gx n b bx bx1):=by
 unfold g
 with_reducible repeat (first|(apply J.lt; intro _)|apply J.rq|apply J.bif|exact J.rt rfl)
theorem bV:Nonempty (Told E0 D tab Tryz.f137.ntmps (aG (codeOf Tryz.f137) 0) 23 sh0 bx0 aY aX aZ lf0):=fH (sh:=sh0) (bx:=bx0) (ord:=aY) (shR:=aX) (bxR:=aZ) bX (by kernel_rfl) (by kernel_rfl) (by kernel_rfl) [1] _ _ _ @g0 (fun _ _ _ _ _=>by kernel_rfl) (by
  intro _ _ _ _ _ _ _ h i k x y
  simp only [g0]
  with_reducible repeat (first|(apply J.lt; intro _)|apply J.rq|apply J.bif|exact h _ _|exact i _ (by decide) _ _|exact k (by decide) _ _))
theorem bW:fQ E0 D tab Tryz.f137.ntmps (codeOf Tryz.f137):=bT (bs:= [aG (codeOf Tryz.f137) 0]) (by kernel_rfl) (aF (bP (by kernel_rfl) (bV)) aO)
theorem ok:nA Tryz.f137=true:=by kernel_rfl
abbrev aS:List AS:= [.one (.val (.ref ak)),.one (.val (.int .i64)),.clo 138 [.pb 1000000 (.ref ak) [],.pb 1000001 (.sl (.arr 4 (.int .u64))) [],.pb 1000002 (.sl (.arr 4 (.int .u64))) []]]
abbrev bS:List Ty:= [.ref ak,.sl (.arr 4 (.int .u64)),.sl (.arr 4 (.int .u64))]
def F (x:ASs aS) (y:Bs bS):Brn Res:=brn (r x.1 x.2.1 y.1 y.2.1 y.2.2.1)
theorem good (x:ASs aS) (y:Bs bS) (h:(F x y).res.1=true):Good Tryz.prog 137 (ASs.mk aS x) (Bs.mk bS y) (F x y).res.2:=
 fP hE0 (ay _) Tryz.func137 ok bW cB (run x.1 x.2.1 y.1 y.2.1 y.2.2.1) (rel x.1 x.2.1 y.1 y.2.1 y.2.2.1) h
def ent:Ent Tryz.prog:=⟨137,shF aS bS F,bM good⟩
end gU
namespace r9
abbrev X:Type:=Nat×(Unit)×(Nat×Nat×(Bool×List (List Int)))
def rH (x:Unit):Res:=⟨[.nil],[],[]⟩
def rG (x:Nat×Nat×(Bool×List (List Int))):Res:=⟨[.vs 1000000 (.arr 4 (.int .u64)) [] x.1 x.2.1],[],[⟨.dyn (.arr 4 (.int .u64)),x.2.2⟩]⟩
def res (x:X):Res:=bif Nat.beq x.1 0 then rH x.2.1 else (rG x.2.2)
def brn (w:Bool×X):Brn Res:= .ite (Nat.beq w.2.1 0) (.one w.1 (rH w.2.2.1)) (.one w.1 (rG w.2.2.2))
theorem cB (w:Bool×X):(brn w).res=(w.1,res w.2):=by
 cases h0:Nat.beq w.2.1 0 with
 |true=>simp only [brn,res,Brn.res,h0,cond_true,cond_false]
 |false=>
  simp only [brn,res,Brn.res,h0,cond_true,cond_false]
def g {Z:Type} (rq:Bool→Z→Z) (rt:X→Z) (gx:(Option af)) (a:(List (List Int))) (b:(List (List Int))):Z:=
lt (a.length:Int) fun (v1507:Int)=>
lt (b.length:Int) fun (v1508:Int)=>
lt (bif ilt v1507 v1508 then v1508 else v1507) fun (v1509:Int)=>
lt (gU.r gx v1509 gx a b) fun w1524=>
bif Nat.beq w1524.2.1 0 then
rq w1524.1<|
rt (0,(),(0,0,(true,[])))
else
rq w1524.1<|
rt (1,(),(w1524.2.2.2.1,w1524.2.2.2.2.1,w1524.2.2.2.2.2.2.2.2))
def r (gx:(Option af)) (a:(List (List Int))) (b:(List (List Int))):Bool×X:=g chk (fun x=>(true,x)) gx a b
def D:aH:=Dof (P:=Tryz.prog) [gU.ent]
def tab:List (Nat×LE Res):= []
theorem run (gx:(Option af)) (a:(List (List Int))) (b:(List (List Int))):gL E0 [false] D (iG E0 D tab 9) Tryz.f113 (codeOf Tryz.f113) [.val ⟨.ref ak,gx⟩,.val ⟨.sl (.arr 4 (.int .u64)),a⟩,.val ⟨.sl (.arr 4 (.int .u64)),b⟩] []=g (fun c z=>req c z) (fun x=>some (res x)) gx a b:=by kernel_rfl
theorem rel (gx:(Option af)) (a:(List (List Int))) (b:(List (List Int))):J (fun w z=>z=some (res w)) (g chk (fun x=>(true,x)) gx a b) (g (fun c z=>req c z) (fun x=>some (res x)) gx a b):=by
 unfold g
 with_reducible repeat (first|(apply J.lt; intro _)|apply J.rq|apply J.bif|exact J.rt rfl)
theorem ok:nA Tryz.f113=true:=by kernel_rfl
abbrev aS:List AS:= [.one (.val (.ref ak)),.one (.val (.sl (.arr 4 (.int .u64)))),.one (.val (.sl (.arr 4 (.int .u64))))]
abbrev bS:List Ty:= []
def F (x:ASs aS) (y:Bs bS):Brn Res:=brn (r x.1 x.2.1 x.2.2.1)
theorem good (x:ASs aS) (y:Bs bS) (h:(F x y).res.1=true):Good Tryz.prog 113 (ASs.mk aS x) (Bs.mk bS y) (F x y).res.2:=
 fP hE0 (ay _) Tryz.func113 ok aC cB (run x.1 x.2.1 x.2.2.1) (rel x.1 x.2.1 x.2.2.1) h
def ent:Ent Tryz.prog:=⟨113,shF aS bS F,bM good⟩
end r9
namespace iW
abbrev X:Type:=(List Int)×(List (List Int))×(Option af)×(List (List Int))
def res (x:(List Int)×(List (List Int))×(Option af)×(List (List Int))):Res:=⟨[.val ⟨.arr 4 (.int .u64),x.1⟩],[some ⟨.sl (.arr 4 (.int .u64)),x.2.1⟩,some ⟨.ref ak,x.2.2.1⟩,some ⟨.sl (.arr 4 (.int .u64)),x.2.2.2⟩],[]⟩
abbrev sh0:List (Nat×Sh):= [(0,.p (.int .i64)),(1,.pb 1000000 (.sl (.arr 4 (.int .u64))) []),(2,.pb 1000001 (.ref ak) []),(3,.pb 1000002 (.sl (.arr 4 (.int .u64))) []),(5,.pb 500000 (.arr 4 (.int .u64)) []),(6,.pb 500001 (.arr 4 (.int .u64)) []),(9,.p (.int .i64)),(10,.p (.int .i64))]
abbrev bx0:List (Nat×Ty):= [(500000,.arr 4 (.int .u64)),(500001,.arr 4 (.int .u64)),(1000000,.sl (.arr 4 (.int .u64))),(1000001,.ref ak),(1000002,.sl (.arr 4 (.int .u64)))]
abbrev aY:List (Nat×Ty):= [(500000,.arr 4 (.int .u64)),(500001,.arr 4 (.int .u64)),(1000000,.sl (.arr 4 (.int .u64))),(1000001,.ref ak),(1000002,.sl (.arr 4 (.int .u64)))]
abbrev aX:List (Nat×Sh):= []
abbrev aZ:List (Nat×Ty):= []
abbrev bX:List (Nat×Ty):= []
abbrev X0:Type:=Int×Unit×Unit×Unit×Unit×Unit×Int×Int×Unit
abbrev Y0:Type:=(List Int)×(List Int)×(List (List Int))×(Option af)×(List (List Int))×Unit
abbrev U0:Type:=Unit
abbrev V0:Type:=Unit
def g0 {Z:Type} (rq:Bool→Z→Z) (kn:X0→Y0→Z) (ke:Nat→X0→Y0→Z) (kr:U0→V0→Z) (x:X0) (y:Y0):Z:=
lt (ilt x.2.2.2.2.2.2.2.1 x.2.2.2.2.2.2.1) fun v1534=>
bif v1534 then
lt (y.2.2.1.getD x.2.2.2.2.2.2.2.1.toNat [0,0,0,0]) fun (v1535:(List Int))=>
rq (ile (0:Int) x.2.2.2.2.2.2.2.1&&ilt x.2.2.2.2.2.2.2.1 (y.2.2.1.length:Int))<|
lt (IntKind.i64.wrap (x.1 - x.2.2.2.2.2.2.2.1)) fun v1536=>
lt (nu.r y.2.2.2.2.1 v1536) fun w1537=>
rq w1537.1<|
lt (gY.r y.2.2.2.1 v1535 w1537.2) fun w1538=>
rq w1538.1<|
lt (gZ.r y.2.2.2.1 y.2.1 w1538.2) fun w1539=>
rq w1539.1<|
lt (IntKind.i64.wrap (x.2.2.2.2.2.2.2.1+1)) fun v1540=>
kn (x.1,(),(),(),(),(),x.2.2.2.2.2.2.1,v1540,()) (y.1,w1539.2,y.2.2.1,y.2.2.2.1,y.2.2.2.2.1,())
else
ke 0 (x.1,(),(),(),(),(),x.2.2.2.2.2.2.1,x.2.2.2.2.2.2.2.1,()) (y.1,y.2.1,y.2.2.1,y.2.2.2.1,y.2.2.2.2.1,())
def fu0 (x:X0) (y:Y0):Nat:=(x.2.2.2.2.2.2.1 - x.2.2.2.2.2.2.2.1).toNat+1
def l0 (x:X0) (y:Y0):Bool×Nat×X0×Y0×U0×V0:=rounds (fun rq kn ke kr x y=>g0 rq kn ke kr x y) () () (fu0 x y) x y
def g {Z:Type} (rq:Bool→Z→Z) (rt:X→Z) (kx:Int) (b:(List (List Int))) (bx:(Option af)) (bx1:(List (List Int))):Z:=
lt (b.length:Int) fun (v1532:Int)=>
lt (iW.l0 (kx,(),(),(),(),(),v1532,0,()) ([0,0,0,0],[0,0,0,0],b,bx,bx1,())) fun w1541=>
rq w1541.1<|
rt (w1541.2.2.2.1.2.1,w1541.2.2.2.1.2.2.1,w1541.2.2.2.1.2.2.2.1,w1541.2.2.2.1.2.2.2.2.1)
def r (kx:Int) (b:(List (List Int))) (bx:(Option af)) (bx1:(List (List Int))):Bool×X:=g chk (fun x=>(true,x)) kx b bx bx1
def D:aH:=Dof (P:=Tryz.prog) [nu.ent,gY.ent,gZ.ent]
abbrev lf0:=dw (R:=Res) [1] (rounds (fun rq kn ke kr x y=>g0 rq kn ke kr x y) () ()) fu0
def tab:List (Nat×LE Res):= [(4,.typed (eY 29 sh0 bx0 aY aX aZ (lf0)))]
theorem bV:Nonempty (Told E0 D tab Tryz.f142.ntmps (aG (codeOf Tryz.f142) 0) 29 sh0 bx0 aY aX aZ lf0):=fH (sh:=sh0) (bx:=bx0) (ord:=aY) (shR:=aX) (bxR:=aZ) bX (by kernel_rfl) (by kernel_rfl) (by kernel_rfl) [1] _ _ _ @g0 (fun _ _ _ _ _=>by kernel_rfl) (by
  intro _ _ _ _ _ _ _ h i k x y
  simp only [g0]
  with_reducible repeat (first|(apply J.lt; intro _)|apply J.rq|apply J.bif|exact h _ _|exact i _ (by decide) _ _|exact k (by decide) _ _))
theorem bW:fQ E0 D tab Tryz.f142.ntmps (codeOf Tryz.f142):=bT (bs:= [aG (codeOf Tryz.f142) 0]) (by kernel_rfl) (aF (bP (by kernel_rfl) (bV)) aO)
abbrev aS:List AS:= [.one (.val (.int .i64)),.one (.pb 1000000 (.sl (.arr 4 (.int .u64))) []),.one (.pb 1000001 (.ref ak) []),.one (.pb 1000002 (.sl (.arr 4 (.int .u64))) [])]
abbrev bS:List Ty:= [.sl (.arr 4 (.int .u64)),.ref ak,.sl (.arr 4 (.int .u64))]
def ent:Ent Tryz.prog:=bH (D:=D) (tab:=tab) hE0 (ay _) [true] Tryz.func142 (by kernel_rfl) bW aS bS res (fun x y=>r x.1 y.1 y.2.1 y.2.2.1) (fun x y=>g (fun c z=>req c z) (fun x=>some (res x)) x.1 y.1 y.2.1 y.2.2.1) (fun _ _=>by kernel_rfl) (by
 intro x y
 show J _ (g chk (fun x=>(true,x)) x.1 y.1 y.2.1 y.2.2.1) (g (fun c z=>req c z) (fun x=>some (res x)) x.1 y.1 y.2.1 y.2.2.1)
 unfold g
 with_reducible repeat (first|(apply J.lt; intro _)|apply J.rq|apply J.bif|exact J.rt rfl))
end iW
namespace gT
abbrev X:Type:=Nat×((List (List Int))×(Option af)×(List (List Int)))×(Nat×Nat×(List (List Int))×(Option af)×(List (List Int))×(Bool×List (List Int)))
def rH (x:(List (List Int))×(Option af)×(List (List Int))):Res:=⟨[.nil],[some ⟨.sl (.arr 4 (.int .u64)),x.1⟩,some ⟨.ref ak,x.2.1⟩,some ⟨.sl (.arr 4 (.int .u64)),x.2.2⟩],[]⟩
def rG (x:Nat×Nat×(List (List Int))×(Option af)×(List (List Int))×(Bool×List (List Int))):Res:=⟨[.vs 1000003 (.arr 4 (.int .u64)) [] x.1 x.2.1],[some ⟨.sl (.arr 4 (.int .u64)),x.2.2.1⟩,some ⟨.ref ak,x.2.2.2.1⟩,some ⟨.sl (.arr 4 (.int .u64)),x.2.2.2.2.1⟩],[⟨.dyn (.arr 4 (.int .u64)),x.2.2.2.2.2⟩]⟩
def res (x:X):Res:=bif Nat.beq x.1 0 then rH x.2.1 else (rG x.2.2)
def brn (w:Bool×X):Brn Res:= .ite (Nat.beq w.2.1 0) (.one w.1 (rH w.2.2.1)) (.one w.1 (rG w.2.2.2))
theorem cB (w:Bool×X):(brn w).res=(w.1,res w.2):=by
 cases h0:Nat.beq w.2.1 0 with
 |true=>simp only [brn,res,Brn.res,h0,cond_true,cond_false]
 |false=>
  simp only [brn,res,Brn.res,h0,cond_true,cond_false]
abbrev sh0:List (Nat×Sh):= [(0,.p (.ref ak)),(2,.clo 142 [(1000000,.sl (.arr 4 (.int .u64))),(1000001,.ref ak),(1000002,.sl (.arr 4 (.int .u64)))]),(6,.nil),(7,.va 500000 (.arr 4 (.int .u64))),(9,.p (.int .i64)),(10,.p (.int .i64))]
abbrev bx0:List (Nat×Ty):= [(500000,.dyn (.arr 4 (.int .u64))),(1000000,.sl (.arr 4 (.int .u64))),(1000001,.ref ak),(1000002,.sl (.arr 4 (.int .u64)))]
abbrev aY:List (Nat×Ty):= [(500000,.dyn (.arr 4 (.int .u64))),(1000000,.sl (.arr 4 (.int .u64))),(1000001,.ref ak),(1000002,.sl (.arr 4 (.int .u64)))]
abbrev aX:List (Nat×Sh):= []
abbrev aZ:List (Nat×Ty):= []
abbrev bX:List (Nat×Ty):= []
abbrev X0:Type:=(Option af)×Unit×Unit×Unit×Int×Int×Unit
abbrev Y0:Type:=(Bool×List (List Int))×(List (List Int))×(Option af)×(List (List Int))×Unit
abbrev U0:Type:=Unit
abbrev V0:Type:=Unit
def g0 {Z:Type} (rq:Bool→Z→Z) (kn:X0→Y0→Z) (ke:Nat→X0→Y0→Z) (kr:U0→V0→Z) (x:X0) (y:Y0):Z:=
lt (ilt x.2.2.2.2.2.1 x.2.2.2.2.1) fun v1544=>
bif v1544 then
lt (iW.r x.2.2.2.2.2.1 y.2.1 y.2.2.1 y.2.2.2.1) fun w1545=>
rq w1545.1<|
lt (y.1.1&&false) fun (v1546:Bool)=>
lt (y.1.2++ [w1545.2.1]) fun (v1547:(List (List Int)))=>
rq (nle ((2*(y.1.2.length+1)+512)*32) 70368744177664)<|
lt (IntKind.i64.wrap (x.2.2.2.2.2.1+1)) fun v1548=>
kn (x.1,(),(),(),x.2.2.2.2.1,v1548,()) ((v1546,v1547),w1545.2.2.1,w1545.2.2.2.1,w1545.2.2.2.2,())
else
ke 0 (x.1,(),(),(),x.2.2.2.2.1,x.2.2.2.2.2.1,()) (y.1,y.2.1,y.2.2.1,y.2.2.2.1,())
def fu0 (x:X0) (y:Y0):Nat:=(x.2.2.2.2.1 - x.2.2.2.2.2.1).toNat+1
def l0 (x:X0) (y:Y0):Bool×Nat×X0×Y0×U0×V0:=rounds (fun rq kn ke kr x y=>g0 rq kn ke kr x y) () () (fu0 x y) x y
def g {Z:Type} (rq:Bool→Z→Z) (rt:X→Z) (gx:(Option af)) (n:Int) (b:(List (List Int))) (bx:(Option af)) (bx1:(List (List Int))):Z:=
lt (gT.l0 (gx,(),(),(),n,0,()) ((true,[]),b,bx,bx1,())) fun w1549=>
rq w1549.1<|
lt (eO.r w1549.2.2.1.1 w1549.2.2.2.1.1.2) fun w1550=>
bif Nat.beq w1550.2.1 0 then
rq w1550.1<|
rt (0,(w1549.2.2.2.1.2.1,w1549.2.2.2.1.2.2.1,w1549.2.2.2.1.2.2.2.1),(0,0,[],none,[],(true,[])))
else
rq w1550.1<|
rt (1,([],none,[]),(w1550.2.2.2.1,w1550.2.2.2.2.1,w1549.2.2.2.1.2.1,w1549.2.2.2.1.2.2.1,w1549.2.2.2.1.2.2.2.1,w1550.2.2.2.2.2))
def r (gx:(Option af)) (n:Int) (b:(List (List Int))) (bx:(Option af)) (bx1:(List (List Int))):Bool×X:=g chk (fun x=>(true,x)) gx n b bx bx1
def D:aH:=Dof (P:=Tryz.prog) [iW.ent,eO.ent]
abbrev lf0:=dw (R:=Res) [1] (rounds (fun rq kn ke kr x y=>g0 rq kn ke kr x y) () ()) fu0
def tab:List (Nat×LE Res):= [(4,.typed (eY 23 sh0 bx0 aY aX aZ (lf0)))]
theorem run (gx:(Option af)) (n:Int) (b:(List (List Int))) (bx:(Option af)) (bx1:(List (List Int))):gL E0 [false] D (iG E0 D tab 9) Tryz.f137 (codeOf Tryz.f137) [.val ⟨.ref ak,gx⟩,.val ⟨.int .i64,n⟩,.clo 142 [.pb 1000000 (.sl (.arr 4 (.int .u64))) [],.pb 1000001 (.ref ak) [],.pb 1000002 (.sl (.arr 4 (.int .u64))) []]] [⟨.sl (.arr 4 (.int .u64)),b⟩,⟨.ref ak,bx⟩,⟨.sl (.arr 4 (.int .u64)),bx1⟩]=g (fun c z=>req c z) (fun x=>some (res x)) gx n b bx bx1:=by kernel_rfl
theorem rel (gx:(Option af)) (n:Int) (b:(List (List Int))) (bx:(Option af)) (bx1:(List (List Int))):J (fun w z=>z=some (res w)) (g chk (fun x=>(true,x)) gx n b bx bx1) (g (fun c z=>req c z) (fun x=>some (res x)) gx n b bx bx1):=by
 unfold g
 with_reducible repeat (first|(apply J.lt; intro _)|apply J.rq|apply J.bif|exact J.rt rfl)
theorem bV:Nonempty (Told E0 D tab Tryz.f137.ntmps (aG (codeOf Tryz.f137) 0) 23 sh0 bx0 aY aX aZ lf0):=fH (sh:=sh0) (bx:=bx0) (ord:=aY) (shR:=aX) (bxR:=aZ) bX (by kernel_rfl) (by kernel_rfl) (by kernel_rfl) [1] _ _ _ @g0 (fun _ _ _ _ _=>by kernel_rfl) (by
  intro _ _ _ _ _ _ _ h i k x y
  simp only [g0]
  with_reducible repeat (first|(apply J.lt; intro _)|apply J.rq|apply J.bif|exact h _ _|exact i _ (by decide) _ _|exact k (by decide) _ _))
theorem bW:fQ E0 D tab Tryz.f137.ntmps (codeOf Tryz.f137):=bT (bs:= [aG (codeOf Tryz.f137) 0]) (by kernel_rfl) (aF (bP (by kernel_rfl) (bV)) aO)
theorem ok:nA Tryz.f137=true:=by kernel_rfl
abbrev aS:List AS:= [.one (.val (.ref ak)),.one (.val (.int .i64)),.clo 142 [.pb 1000000 (.sl (.arr 4 (.int .u64))) [],.pb 1000001 (.ref ak) [],.pb 1000002 (.sl (.arr 4 (.int .u64))) []]]
abbrev bS:List Ty:= [.sl (.arr 4 (.int .u64)),.ref ak,.sl (.arr 4 (.int .u64))]
def F (x:ASs aS) (y:Bs bS):Brn Res:=brn (r x.1 x.2.1 y.1 y.2.1 y.2.2.1)
theorem good (x:ASs aS) (y:Bs bS) (h:(F x y).res.1=true):Good Tryz.prog 137 (ASs.mk aS x) (Bs.mk bS y) (F x y).res.2:=
 fP hE0 (ay _) Tryz.func137 ok bW cB (run x.1 x.2.1 y.1 y.2.1 y.2.2.1) (rel x.1 x.2.1 y.1 y.2.1 y.2.2.1) h
def ent:Ent Tryz.prog:=⟨137,shF aS bS F,bM good⟩
end gT
namespace qC
abbrev X:Type:=(List (List Int))
def res (x:(List (List Int))):Res:=⟨[.val ⟨.sl (.arr 4 (.int .u64)),x⟩],[],[]⟩
def g {Z:Type} (rq:Bool→Z→Z) (rt:X→Z) (gx:(Option af)) (a:(List (List Int))) (b:(List (List Int))):Z:=
lt (a.length:Int) fun (v1527:Int)=>
lt (b.length:Int) fun (v1528:Int)=>
lt (IntKind.i64.wrap (v1527+v1528)) fun v1529=>
lt (gT.r gx v1529 a gx b) fun w1551=>
bif Nat.beq w1551.2.1 0 then
rq w1551.1<|
rt []
else
rq w1551.1<|
rt ((w1551.2.2.2.2.2.2.2.2.2.drop w1551.2.2.2.1).take w1551.2.2.2.2.1)
def r (gx:(Option af)) (a:(List (List Int))) (b:(List (List Int))):Bool×X:=g chk (fun x=>(true,x)) gx a b
def D:aH:=Dof (P:=Tryz.prog) [gT.ent]
def tab:List (Nat×LE Res):= []
abbrev aS:List AS:= [.one (.val (.ref ak)),.one (.val (.sl (.arr 4 (.int .u64)))),.one (.val (.sl (.arr 4 (.int .u64))))]
abbrev bS:List Ty:= []
def ent:Ent Tryz.prog:=bH (D:=D) (tab:=tab) hE0 (ay _) [true] Tryz.func116 (by kernel_rfl) aC aS bS res (fun x y=>r x.1 x.2.1 x.2.2.1) (fun x y=>g (fun c z=>req c z) (fun x=>some (res x)) x.1 x.2.1 x.2.2.1) (fun _ _=>by kernel_rfl) (by
 intro x y
 show J _ (g chk (fun x=>(true,x)) x.1 x.2.1 x.2.2.1) (g (fun c z=>req c z) (fun x=>some (res x)) x.1 x.2.1 x.2.2.1)
 unfold g
 with_reducible repeat (first|(apply J.lt; intro _)|apply J.rq|apply J.bif|exact J.rt rfl))
end qC
namespace gV
abbrev X:Type:=Nat×(Int)×(Nat×Nat×Int×(Bool×List (List Int)))
def rH (x:Int):Res:=⟨[.nil,.val ⟨.int .i64,x⟩],[],[]⟩
def rG (x:Nat×Nat×Int×(Bool×List (List Int))):Res:=⟨[.vs 1000000 (.arr 4 (.int .u64)) [] x.1 x.2.1,.val ⟨.int .i64,x.2.2.1⟩],[],[⟨.dyn (.arr 4 (.int .u64)),x.2.2.2⟩]⟩
def res (x:X):Res:=bif Nat.beq x.1 0 then rH x.2.1 else (rG x.2.2)
def brn (w:Bool×X):Brn Res:= .ite (Nat.beq w.2.1 0) (.one w.1 (rH w.2.2.1)) (.one w.1 (rG w.2.2.2))
theorem cB (w:Bool×X):(brn w).res=(w.1,res w.2):=by
 cases h0:Nat.beq w.2.1 0 with
 |true=>simp only [brn,res,Brn.res,h0,cond_true,cond_false]
 |false=>
  simp only [brn,res,Brn.res,h0,cond_true,cond_false]
abbrev sh0:List (Nat×Sh):= [(0,.p (.ref ak)),(2,.p (.sl (.arr 4 (.int .u64)))),(6,.nil),(7,.p (.int .i64)),(8,.vs 500001 (.arr 4 (.int .u64)) []),(9,.p (.sl (.arr 4 (.int .u64)))),(31,.p (.sl (.arr 4 (.int .u64)))),(32,.p (.int .i64)),(33,.p (.int .i64))]
abbrev bx0:List (Nat×Ty):= [(500001,.dyn (.arr 4 (.int .u64)))]
abbrev aY:List (Nat×Ty):= [(500001,.dyn (.arr 4 (.int .u64)))]
abbrev aX:List (Nat×Sh):= [(6,.nil),(7,.p (.int .i64))]
abbrev aZ:List (Nat×Ty):= []
abbrev bX:List (Nat×Ty):= []
abbrev X0:Type:=(Option af)×(List (List Int))×Unit×Int×(Nat×Nat)×(List (List Int))×(List (List Int))×Int×Int×Unit
abbrev Y0:Type:=(Bool×List (List Int))×Unit
abbrev U0:Type:=Unit×Int×Unit
abbrev V0:Type:=Unit
def g0 {Z:Type} (rq:Bool→Z→Z) (kn:X0→Y0→Z) (ke:Nat→X0→Y0→Z) (kr:U0→V0→Z) (x:X0) (y:Y0):Z:=
lt (ilt x.2.2.2.2.2.2.2.2.1 x.2.2.2.2.2.2.2.1) fun v1585=>
bif v1585 then
lt (x.2.2.2.2.2.2.1.getD x.2.2.2.2.2.2.2.2.1.toNat [0,0,0,0]) fun (v1586:(List Int))=>
rq (ile (0:Int) x.2.2.2.2.2.2.2.2.1&&ilt x.2.2.2.2.2.2.2.2.1 (x.2.2.2.2.2.2.1.length:Int))<|
lt (jy.r x.1 x.2.2.2.2.2.1 v1586) fun w1587=>
rq w1587.1<|
lt (mJ.r w1587.2) fun w1588=>
rq w1588.1<|
bif w1588.2 then
kr ((),1,()) ()
else
lt (x.2.1.getD x.2.2.2.2.2.2.2.2.1.toNat [0,0,0,0]) fun (v1589:(List Int))=>
rq (ile (0:Int) x.2.2.2.2.2.2.2.2.1&&ilt x.2.2.2.2.2.2.2.2.1 (x.2.1.length:Int))<|
lt (jy.r x.1 ((y.1.2.drop x.2.2.2.2.1.1).take x.2.2.2.2.1.2) v1586) fun w1590=>
rq w1590.1<|
lt (mO.r x.1 v1589 w1590.2) fun w1591=>
rq w1591.1<|
lt (pJ.r x.1 w1587.2) fun w1592=>
rq w1592.1<|
lt (gY.r x.1 w1591.2 w1592.2) fun w1593=>
rq w1593.1<|
lt (mK.r x.1 x.2.2.2.2.2.1 w1593.2 0) fun w1594=>
rq w1594.1<|
lt (r9.r x.1 ((y.1.2.drop x.2.2.2.2.1.1).take x.2.2.2.2.1.2) w1594.2) fun w1595=>
bif Nat.beq w1595.2.1 0 then
rq w1595.1<|
lt (mO.r x.1 [0,0,0,0] v1586) fun w1596=>
rq w1596.1<|
lt (qC.r x.1 x.2.2.2.2.2.1 [w1596.2,[1,0,0,0]]) fun w1597=>
rq w1597.1<|
lt (IntKind.i64.wrap (x.2.2.2.2.2.2.2.2.1+1)) fun v1598=>
kn (x.1,x.2.1,(),x.2.2.2.1,(0,0),w1597.2,x.2.2.2.2.2.2.1,x.2.2.2.2.2.2.2.1,v1598,()) ((true,[]),())
else
rq w1595.1<|
lt (mO.r x.1 [0,0,0,0] v1586) fun w1599=>
rq w1599.1<|
lt (qC.r x.1 x.2.2.2.2.2.1 [w1599.2,[1,0,0,0]]) fun w1600=>
rq w1600.1<|
lt (IntKind.i64.wrap (x.2.2.2.2.2.2.2.2.1+1)) fun v1601=>
kn (x.1,x.2.1,(),x.2.2.2.1,(w1595.2.2.2.1,w1595.2.2.2.2.1),w1600.2,x.2.2.2.2.2.2.1,x.2.2.2.2.2.2.2.1,v1601,()) (w1595.2.2.2.2.2,())
else
ke 0 (x.1,x.2.1,(),x.2.2.2.1,(x.2.2.2.2.1.1,x.2.2.2.2.1.2),x.2.2.2.2.2.1,x.2.2.2.2.2.2.1,x.2.2.2.2.2.2.2.1,x.2.2.2.2.2.2.2.2.1,()) (y.1,())
def fu0 (x:X0) (y:Y0):Nat:=(x.2.2.2.2.2.2.2.1 - x.2.2.2.2.2.2.2.2.1).toNat+1
def l0 (x:X0) (y:Y0):Bool×Nat×X0×Y0×U0×V0:=rounds (fun rq kn ke kr x y=>g0 rq kn ke kr x y) ((),0,()) () (fu0 x y) x y
def g {Z:Type} (rq:Bool→Z→Z) (rt:X→Z) (gx:(Option af)) (xs:(List (List Int))) (ys:(List (List Int))):Z:=
lt (bA.r gx) fun w1578=>
rq w1578.1<|
bif w1578.2.isNone then
rt (0,1,(0,0,0,(true,[])))
else
lt (xs.length:Int) fun (v1579:Int)=>
lt (ys.length:Int) fun (v1580:Int)=>
lt (v1579 != v1580) fun (v1581:Bool)=>
bif v1581 then
rt (0,1,(0,0,0,(true,[])))
else
lt (xs.length:Int) fun (v1582:Int)=>
lt (ilt 32 v1582) fun v1583=>
bif v1583 then
rt (0,1,(0,0,0,(true,[])))
else
lt (xs.length:Int) fun (v1584:Int)=>
lt (gV.l0 (gx,ys,(),0,(0,0),[[1,0,0,0]],xs,v1584,0,()) ((true,[]),())) fun w1602=>
rq w1602.1<|
bif Nat.beq w1602.2.1 0 then
rt (0,w1602.2.2.2.2.1.2.1,(0,0,0,(true,[])))
else
rt (1,0,(w1602.2.2.1.2.2.2.2.1.1,w1602.2.2.1.2.2.2.2.1.2,0,w1602.2.2.2.1.1))
def r (gx:(Option af)) (xs:(List (List Int))) (ys:(List (List Int))):Bool×X:=g chk (fun x=>(true,x)) gx xs ys
def D:aH:=Dof (P:=Tryz.prog) [bA.ent,jy.ent,mJ.ent,mO.ent,pJ.ent,gY.ent,mK.ent,r9.ent,qC.ent]
abbrev lf0:=dw (R:=Res) [0,1] (rounds (fun rq kn ke kr x y=>g0 rq kn ke kr x y) ((),0,()) ()) fu0
def tab:List (Nat×LE Res):= [(7,.typed (eY 77 sh0 bx0 aY aX aZ (lf0)))]
theorem run (gx:(Option af)) (xs:(List (List Int))) (ys:(List (List Int))):gL E0 [false,true] D (iG E0 D tab 9) Tryz.f78 (codeOf Tryz.f78) [.val ⟨.ref ak,gx⟩,.val ⟨.sl (.arr 4 (.int .u64)),xs⟩,.val ⟨.sl (.arr 4 (.int .u64)),ys⟩] []=g (fun c z=>req c z) (fun x=>some (res x)) gx xs ys:=by kernel_rfl
theorem rel (gx:(Option af)) (xs:(List (List Int))) (ys:(List (List Int))):J (fun w z=>z=some (res w)) (g chk (fun x=>(true,x)) gx xs ys) (g (fun c z=>req c z) (fun x=>some (res x)) gx xs ys):=by
 unfold g
 with_reducible repeat (first|(apply J.lt; intro _)|apply J.rq|apply J.bif|exact J.rt rfl)
theorem bV:Nonempty (Told E0 D tab Tryz.f78.ntmps (aG (codeOf Tryz.f78) 0) 77 sh0 bx0 aY aX aZ lf0):=fH (sh:=sh0) (bx:=bx0) (ord:=aY) (shR:=aX) (bxR:=aZ) bX (by kernel_rfl) (by kernel_rfl) (by kernel_rfl) [0,1] _ _ _ @g0 (fun _ _ _ _ _=>by kernel_rfl) (by
  intro _ _ _ _ _ _ _ h i k x y
  simp only [g0]
  with_reducible repeat (first|(apply J.lt; intro _)|apply J.rq|apply J.bif|exact h _ _|exact i _ (by decide) _ _|exact k (by decide) _ _))
theorem bW:fQ E0 D tab Tryz.f78.ntmps (codeOf Tryz.f78):=bT (bs:= [aG (codeOf Tryz.f78) 0]) (by kernel_rfl) (aF (bP (by kernel_rfl) (bV)) aO)
theorem ok:nA Tryz.f78=true:=by kernel_rfl
abbrev aS:List AS:= [.one (.val (.ref ak)),.one (.val (.sl (.arr 4 (.int .u64)))),.one (.val (.sl (.arr 4 (.int .u64))))]
abbrev bS:List Ty:= []
def F (x:ASs aS) (y:Bs bS):Brn Res:=brn (r x.1 x.2.1 x.2.2.1)
theorem good (x:ASs aS) (y:Bs bS) (h:(F x y).res.1=true):Good Tryz.prog 78 (ASs.mk aS x) (Bs.mk bS y) (F x y).res.2:=
 fP hE0 (ay _) Tryz.func78 ok bW cB (run x.1 x.2.1 x.2.2.1) (rel x.1 x.2.1 x.2.2.1) h
def ent:Ent Tryz.prog:=⟨78,shF aS bS F,bM good⟩
end gV
end Go.Own
