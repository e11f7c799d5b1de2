/- What functions compute, printed by wip/gen/gen2.py. -/
import Derived.Test.YtkjppaidcnmjjaaGreatG7
set_option linter.unusedVariables false
set_option linter.unusedSimpArgs false
namespace Go.Own
open Go.Proofs Go.Proofs.YtkjppaidcnmjjaaGreat
namespace gP
abbrev X:Type:=Nat×(Int)×(Nat×Nat×Int×(Bool×List (List Int)))
noncomputable def pu (x:Int):Res:=⟨[.nil,.val ⟨.int .i64,x⟩],[],[]⟩
noncomputable def pq (x:Nat×Nat×Int×(Bool×List (List Int))):Res:=⟨[.vs 1000000 (.arr 4 (.int .u64)) [] x.1 x.2.1,.val ⟨.int .i64,x.2.2.1⟩],[],[⟨.dyn (.arr 4 (.int .u64)),x.2.2.2⟩]⟩
noncomputable def res (x:X):Res:=bif Nat.beq x.1 0 then pu x.2.1 else (pq x.2.2)
noncomputable def brn (w:Bool×X):Brn Res:= .ite (Nat.beq w.2.1 0) (.one w.1 (pu w.2.2.1)) (.one w.1 (pq w.2.2.2))
theorem aj (w:Bool×X):(brn w).res=(w.1,res w.2):=by
 cases h0:Nat.beq w.2.1 0 with
 |true=>simp only [brn,res,Brn.res,h0,cond_true,cond_false]
 |false=>
  simp only [brn,res,Brn.res,h0,cond_true,cond_false]
abbrev sh0:List (Nat×Sh):= [(0,.p (.ref au)),(2,.p (.sl (.arr 4 (.int .u64)))),(6,.nil),(7,.p (.int .i64)),(8,.vs 500001 (.arr 4 (.int .u64)) []),(9,.p (.sl (.arr 4 (.int .u64)))),(31,.p (.sl (.arr 4 (.int .u64)))),(32,.p (.int .i64)),(33,.p (.int .i64))]
abbrev bx0:List (Nat×Ty):= [(500001,.dyn (.arr 4 (.int .u64)))]
abbrev aW:List (Nat×Ty):= [(500001,.dyn (.arr 4 (.int .u64)))]
abbrev aM:List (Nat×Sh):= [(6,.nil),(7,.p (.int .i64))]
abbrev aN:List (Nat×Ty):= []
abbrev bC:List (Nat×Ty):= []
abbrev X0:Type:=(Option ai)×(List (List Int))×Unit×Int×(Nat×Nat)×(List (List Int))×(List (List Int))×Int×Int×Unit
abbrev Y0:Type:=(Bool×List (List Int))×Unit
abbrev U0:Type:=Unit×Int×Unit
abbrev V0:Type:=Unit
noncomputable def g0 {Z:Type} (rq:Bool→Z→Z) (kn:X0→Y0→Z) (ke:Nat→X0→Y0→Z) (kr:U0→V0→Z) (x:X0) (y:Y0):Z:=
lt (ilt x.2.2.2.2.2.2.2.2.1 x.2.2.2.2.2.2.2.1) fun v1553=>
bif v1553 then
lt (x.2.2.2.2.2.2.1.getD x.2.2.2.2.2.2.2.2.1.toNat [0,0,0,0]) fun (v1554:(List Int))=>
rq (ile (0:Int) x.2.2.2.2.2.2.2.2.1&&ilt x.2.2.2.2.2.2.2.2.1 (x.2.2.2.2.2.2.1.length:Int))<|
lt (iG.r x.1 x.2.2.2.2.2.1 v1554) fun w1555=>
rq w1555.1<|
lt (lW.r w1555.2) fun w1556=>
rq w1556.1<|
bif w1556.2 then
kr ((),1,()) ()
else
lt (x.2.1.getD x.2.2.2.2.2.2.2.2.1.toNat [0,0,0,0]) fun (v1557:(List Int))=>
rq (ile (0:Int) x.2.2.2.2.2.2.2.2.1&&ilt x.2.2.2.2.2.2.2.2.1 (x.2.1.length:Int))<|
lt (iG.r x.1 ((y.1.2.drop x.2.2.2.2.1.1).take x.2.2.2.2.1.2) v1554) fun w1558=>
rq w1558.1<|
lt (lZ.r x.1 v1557 w1558.2) fun w1559=>
rq w1559.1<|
lt (oN.r x.1 w1555.2) fun w1560=>
rq w1560.1<|
lt (iH.r x.1 w1559.2 w1560.2) fun w1561=>
rq w1561.1<|
lt (lX.r x.1 x.2.2.2.2.2.1 w1561.2 0) fun w1562=>
rq w1562.1<|
lt (rC.r x.1 ((y.1.2.drop x.2.2.2.2.1.1).take x.2.2.2.2.1.2) w1562.2) fun w1563=>
bif Nat.beq w1563.2.1 0 then
rq w1563.1<|
lt (lZ.r x.1 [0,0,0,0] v1554) fun w1564=>
rq w1564.1<|
lt (qf.r x.1 x.2.2.2.2.2.1 [w1564.2,[1,0,0,0]]) fun w1565=>
rq w1565.1<|
lt (IntKind.i64.wrap (x.2.2.2.2.2.2.2.2.1+1)) fun v1566=>
kn (x.1,x.2.1,(),x.2.2.2.1,(0,0),w1565.2,x.2.2.2.2.2.2.1,x.2.2.2.2.2.2.2.1,v1566,()) ((true,[]),())
else
rq w1563.1<|
lt (lZ.r x.1 [0,0,0,0] v1554) fun w1567=>
rq w1567.1<|
lt (qf.r x.1 x.2.2.2.2.2.1 [w1567.2,[1,0,0,0]]) fun w1568=>
rq w1568.1<|
lt (IntKind.i64.wrap (x.2.2.2.2.2.2.2.2.1+1)) fun v1569=>
kn (x.1,x.2.1,(),x.2.2.2.1,(w1563.2.2.2.1,w1563.2.2.2.2.1),w1568.2,x.2.2.2.2.2.2.1,x.2.2.2.2.2.2.2.1,v1569,()) (w1563.2.2.2.2.2,())
else
ke 0 (x.1,x.2.1,(),x.2.2.2.1,(x.2.2.2.2.1.1,x.2.2.2.2.1.2),x.2.2.2.2.2.1,x.2.2.2.2.2.2.1,x.2.2.2.2.2.2.2.1,x.2.2.2.2.2.2.2.2.1,()) (y.1,())
noncomputable def fu0 (x:X0) (y:Y0):Nat:=(x.2.2.2.2.2.2.2.1 - x.2.2.2.2.2.2.2.2.1).toNat+1
noncomputable def l0 (x:X0) (y:Y0):Bool×Nat×X0×Y0×U0×V0:=rounds (fun rq kn ke kr x y=>g0 rq kn ke kr x y) ((),0,()) () (fu0 x y) x y
noncomputable def g {Z:Type} (rq:Bool→Z→Z) (rt:X→Z) (gx:(Option ai)) (xs:(List (List Int))) (ys:(List (List Int))):Z:=
lt (bU.r gx) fun w1546=>
rq w1546.1<|
bif w1546.2.isNone then
rt (0,1,(0,0,0,(true,[])))
else
lt (xs.length:Int) fun (v1547:Int)=>
lt (ys.length:Int) fun (v1548:Int)=>
lt (v1547 != v1548) fun (v1549:Bool)=>
bif v1549 then
rt (0,1,(0,0,0,(true,[])))
else
lt (xs.length:Int) fun (v1550:Int)=>
lt (ilt 32 v1550) fun v1551=>
bif v1551 then
rt (0,1,(0,0,0,(true,[])))
else
lt (xs.length:Int) fun (v1552:Int)=>
lt (gP.l0 (gx,ys,(),0,(0,0),[[1,0,0,0]],xs,v1552,0,()) ((true,[]),())) fun w1570=>
rq w1570.1<|
bif Nat.beq w1570.2.1 0 then
rt (0,w1570.2.2.2.2.1.2.1,(0,0,0,(true,[])))
else
rt (1,0,(w1570.2.2.1.2.2.2.2.1.1,w1570.2.2.1.2.2.2.2.1.2,0,w1570.2.2.2.1.1))
noncomputable def r (gx:(Option ai)) (xs:(List (List Int))) (ys:(List (List Int))):Bool×X:=g chk (fun x=>(true,x)) gx xs ys
noncomputable def D:aP:=Dof (P:=Tryz.prog) [bU.ent,iG.ent,lW.ent,lZ.ent,oN.ent,iH.ent,lX.ent,rC.ent,qf.ent]
noncomputable def tab:List (Nat×LE Res):= [(7,.typed (fH 77 sh0 bx0 aW aM aN (bf [0,1] (rounds (fun rq kn ke kr x y=>g0 rq kn ke kr x y) ((),0,()) ()) fu0)))]
set_option maxRecDepth 100000 in
theorem run (gx:(Option ai)) (xs:(List (List Int))) (ys:(List (List Int))):aQ E0 [false,true] D (aJ E0 D tab 9) Tryz.f34 (codeOf Tryz.f34) [.val ⟨.ref au,gx⟩,.val ⟨.sl (.arr 4 (.int .u64)),xs⟩,.val ⟨.sl (.arr 4 (.int .u64)),ys⟩] []=g (fun c z=>req c z) (fun x=>some (res x)) gx xs ys:=by kernel_rfl
theorem rel (gx:(Option ai)) (xs:(List (List Int))) (ys:(List (List Int))):J (fun w z=>z=some (res w)) (g chk (fun x=>(true,x)) gx xs ys) (g (fun c z=>req c z) (fun x=>some (res x)) gx xs ys):=by
 unfold g
 with_reducible repeat (first|(apply J.lt; intro _)|apply J.rq|apply J.bif|exact J.rt rfl)
set_option maxRecDepth 100000 in
theorem bG (x:ShX sh0) (y:BxX bx0) (kn:ShX sh0→BxX bx0→Option Res) (ke:Nat→ShX sh0→BxX bx0→Option Res) (kr:ShX aM→BxX aN→Option Res):d9 E0 D (aJ E0 D tab 8) (aD (codeOf Tryz.f34) 0) (inj 77 sh0 bx0 x y) (dN sh0 bx0 aW aM aN bC kn ke kr)=g0 (fun c z=>req c z) kn ke kr x y:=by kernel_rfl
theorem cB:Nonempty (Told E0 D tab Tryz.f34.ntmps (aD (codeOf Tryz.f34) 0) 77 sh0 bx0 aW aM aN (bf [0,1] (rounds (fun rq kn ke kr x y=>g0 rq kn ke kr x y) ((),0,()) ()) fu0)):=
 dh (sh:=sh0) (bx:=bx0) (ord:=aW) (shR:=aM) (bxR:=aN) bC 8 (by kernel_rfl) (by kernel_rfl) (by kernel_rfl) [0,1] fu0 ((),0,()) () (fun rq kn ke kr x y=>g0 rq kn ke kr x y) (fun rq kn ke kr x y=>g0 rq kn ke kr x y) (bG) (by
  intro φ kn1 kn2 ke1 ke2 kr1 kr2 h1 h2 h3 x y
  simp only [g0]
  with_reducible repeat (first|(apply J.lt; intro _)|apply J.rq|apply J.bif|exact h1 _ _|exact h2 _ (by decide) _ _|exact h3 (by decide) _ _))
theorem cK:fQ E0 D tab Tryz.f34.ntmps (codeOf Tryz.f34):=bY (bs:= [aD (codeOf Tryz.f34) 0]) (by kernel_rfl) (aK (cZ (by kernel_rfl) (cB)) bn)
theorem ok:dD Tryz.f34=true:=by kernel_rfl
abbrev aS:List AS:= [.one (.val (.ref au)),.one (.val (.sl (.arr 4 (.int .u64)))),.one (.val (.sl (.arr 4 (.int .u64))))]
abbrev bS:List Ty:= []
noncomputable def F (x:ASs aS) (y:Bs bS):Brn Res:=brn (r x.1 x.2.1 x.2.2.1)
theorem good (x:ASs aS) (y:Bs bS) (h:(F x y).res.1=true):Good Tryz.prog 34 (ASs.mk aS x) (Bs.mk bS y) (F x y).res.2:=
 aF hE0 (aA _) Tryz.func34 ok cK aj (run x.1 x.2.1 x.2.2.1) (rel x.1 x.2.1 x.2.2.1) h
noncomputable def ent:Ent Tryz.prog:=⟨34,shF aS bS F,aB good⟩
end gP
namespace bQ
abbrev X:Type:=Nat×(Int)×(Nat×Nat×Int×(Bool×List (List Int)))
noncomputable def pu (x:Int):Res:=⟨[.nil,.val ⟨.int .i64,x⟩],[],[]⟩
noncomputable def pq (x:Nat×Nat×Int×(Bool×List (List Int))):Res:=⟨[.vs 1000000 (.arr 4 (.int .u64)) [] x.1 x.2.1,.val ⟨.int .i64,x.2.2.1⟩],[],[⟨.dyn (.arr 4 (.int .u64)),x.2.2.2⟩]⟩
noncomputable def res (x:X):Res:=bif Nat.beq x.1 0 then pu x.2.1 else (pq x.2.2)
noncomputable def brn (w:Bool×X):Brn Res:= .ite (Nat.beq w.2.1 0) (.one w.1 (pu w.2.2.1)) (.one w.1 (pq w.2.2.2))
theorem aj (w:Bool×X):(brn w).res=(w.1,res w.2):=by
 cases h0:Nat.beq w.2.1 0 with
 |true=>simp only [brn,res,Brn.res,h0,cond_true,cond_false]
 |false=>
  simp only [brn,res,Brn.res,h0,cond_true,cond_false]
abbrev sh0:List (Nat×Sh):= [(0,.p (.ref au)),(1,.p (.int .i64)),(2,.p (.sl dM)),(6,.nil),(7,.p (.int .i64)),(8,.va 500000 (.int .i64)),(9,.va 500001 (.arr 4 (.int .u64))),(10,.va 500002 (.arr 4 (.int .u64))),(15,.p (.sl dM)),(16,.p (.int .i64)),(17,.p (.int .i64))]
abbrev bx0:List (Nat×Ty):= [(500000,.dyn (.int .i64)),(500001,.dyn (.arr 4 (.int .u64))),(500002,.dyn (.arr 4 (.int .u64)))]
abbrev aW:List (Nat×Ty):= [(500000,.dyn (.int .i64)),(500001,.dyn (.arr 4 (.int .u64))),(500002,.dyn (.arr 4 (.int .u64)))]
abbrev aM:List (Nat×Sh):= []
abbrev aN:List (Nat×Ty):= []
abbrev bC:List (Nat×Ty):= []
abbrev X0:Type:=(Option ai)×Int×(List bL)×Unit×Int×Unit×Unit×Unit×(List bL)×Int×Int×Unit
abbrev Y0:Type:=(Bool×List Int)×(Bool×List (List Int))×(Bool×List (List Int))×Unit
abbrev U0:Type:=Unit
abbrev V0:Type:=Unit
noncomputable def g0 {Z:Type} (rq:Bool→Z→Z) (kn:X0→Y0→Z) (ke:Nat→X0→Y0→Z) (kr:U0→V0→Z) (x:X0) (y:Y0):Z:=
lt (ilt x.2.2.2.2.2.2.2.2.2.2.1 x.2.2.2.2.2.2.2.2.2.1) fun v1270=>
bif v1270 then
lt (x.2.2.2.2.2.2.2.2.1.getD x.2.2.2.2.2.2.2.2.2.2.1.toNat (0,([0,0,0,0],()))) fun (v1271:bL)=>
rq (ile (0:Int) x.2.2.2.2.2.2.2.2.2.2.1&&ilt x.2.2.2.2.2.2.2.2.2.2.1 (x.2.2.2.2.2.2.2.2.1.length:Int))<|
lt (y.1.1&&false) fun (v1272:Bool)=>
lt (y.1.2++ [v1271.1]) fun (v1273:(List Int))=>
rq (nle ((2*(y.1.2.length+1)+512)*8) 70368744177664)<|
lt (eO.r v1271.1) fun w1274=>
rq w1274.1<|
lt (y.2.1.1&&false) fun (v1275:Bool)=>
lt (y.2.1.2++ [w1274.2]) fun (v1276:(List (List Int)))=>
rq (nle ((2*(y.2.1.2.length+1)+512)*32) 70368744177664)<|
lt (y.2.2.1.1&&false) fun (v1277:Bool)=>
lt (y.2.2.1.2++ [v1271.2.1]) fun (v1278:(List (List Int)))=>
rq (nle ((2*(y.2.2.1.2.length+1)+512)*32) 70368744177664)<|
lt (IntKind.i64.wrap (x.2.2.2.2.2.2.2.2.2.2.1+1)) fun v1279=>
kn (x.1,x.2.1,x.2.2.1,(),x.2.2.2.2.1,(),(),(),x.2.2.2.2.2.2.2.2.1,x.2.2.2.2.2.2.2.2.2.1,v1279,()) ((v1272,v1273),(v1275,v1276),(v1277,v1278),())
else
ke 0 (x.1,x.2.1,x.2.2.1,(),x.2.2.2.2.1,(),(),(),x.2.2.2.2.2.2.2.2.1,x.2.2.2.2.2.2.2.2.2.1,x.2.2.2.2.2.2.2.2.2.2.1,()) (y.1,y.2.1,y.2.2.1,())
noncomputable def fu0 (x:X0) (y:Y0):Nat:=(x.2.2.2.2.2.2.2.2.2.1 - x.2.2.2.2.2.2.2.2.2.2.1).toNat+1
noncomputable def l0 (x:X0) (y:Y0):Bool×Nat×X0×Y0×U0×V0:=rounds (fun rq kn ke kr x y=>g0 rq kn ke kr x y) () () (fu0 x y) x y
noncomputable def g {Z:Type} (rq:Bool→Z→Z) (rt:X→Z) (gx:(Option ai)) (degree:Int) (l:(List bL)):Z:=
lt (l.length:Int) fun (v1269:Int)=>
lt (bQ.l0 (gx,degree,l,(),0,(),(),(),l,v1269,0,()) ((true,[]),(true,[]),(true,[]),())) fun w1280=>
rq w1280.1<|
lt (bU.r w1280.2.2.1.1) fun w1281=>
rq w1281.1<|
bif w1281.2.isNone then
rt (0,1,(0,0,0,(true,[])))
else
lt (ilt w1280.2.2.1.2.1 0) fun v1282=>
bif v1282 then
rt (0,1,(0,0,0,(true,[])))
else
lt (ile 7 w1280.2.2.1.2.1) fun v1283=>
bif v1283 then
rt (0,1,(0,0,0,(true,[])))
else
lt (jX.r w1280.2.2.2.1.1.2 1) fun w1296=>
rq w1296.1<|
bif w1296.2 then
rt (0,1,(0,0,0,(true,[])))
else
lt (lV.r w1280.2.2.2.1.1.2) fun w1365=>
rq w1365.1<|
bif w1365.2 then
rt (0,1,(0,0,0,(true,[])))
else
lt (w1280.2.2.1.2.2.1.length:Int) fun (v1366:Int)=>
lt (ile v1366 w1280.2.2.1.2.1) fun v1367=>
bif v1367 then
rt (0,3,(0,0,0,(true,[])))
else
lt (gP.r w1280.2.2.1.1 w1280.2.2.2.1.2.1.2 w1280.2.2.2.1.2.2.1.2) fun w1571=>
bif Nat.beq w1571.2.1 0 then
rq w1571.1<|
lt (w1571.2.2.1 != 0) fun (v1572:Bool)=>
bif v1572 then
rt (0,w1571.2.2.1,(0,0,0,(true,[])))
else
lt (IntKind.i64.wrap (w1280.2.2.1.2.1+1)) fun v1573=>
lt (ilt v1573 (0:Int)) fun v1574=>
bif v1574 then
rt (0,4,(0,0,0,(true,[])))
else
rt (0,0,(0,0,0,(true,[])))
else
rq w1571.1<|
lt (w1571.2.2.2.2.2.1 != 0) fun (v1575:Bool)=>
bif v1575 then
rt (0,w1571.2.2.2.2.2.1,(0,0,0,(true,[])))
else
lt ((w1571.2.2.2.2.1:Nat):Int) fun (v1576:Int)=>
lt (IntKind.i64.wrap (w1280.2.2.1.2.1+1)) fun v1577=>
lt (ilt v1577 v1576) fun v1578=>
bif v1578 then
rt (0,4,(0,0,0,(true,[])))
else
rt (1,0,(w1571.2.2.2.1,w1571.2.2.2.2.1,0,w1571.2.2.2.2.2.2))
noncomputable def r (gx:(Option ai)) (degree:Int) (l:(List bL)):Bool×X:=g chk (fun x=>(true,x)) gx degree l
noncomputable def D:aP:=Dof (P:=Tryz.prog) [eO.ent,bU.ent,jX.ent,lV.ent,gP.ent]
noncomputable def tab:List (Nat×LE Res):= [(5,.typed (fH 79 sh0 bx0 aW aM aN (bf [1] (rounds (fun rq kn ke kr x y=>g0 rq kn ke kr x y) () ()) fu0)))]
set_option maxRecDepth 100000 in
theorem run (gx:(Option ai)) (degree:Int) (l:(List bL)):aQ E0 [false,true] D (aJ E0 D tab 9) Tryz.f15 (codeOf Tryz.f15) [.val ⟨.ref au,gx⟩,.val ⟨.int .i64,degree⟩,.val ⟨.sl dM,l⟩] []=g (fun c z=>req c z) (fun x=>some (res x)) gx degree l:=by kernel_rfl
theorem rel (gx:(Option ai)) (degree:Int) (l:(List bL)):J (fun w z=>z=some (res w)) (g chk (fun x=>(true,x)) gx degree l) (g (fun c z=>req c z) (fun x=>some (res x)) gx degree l):=by
 unfold g
 with_reducible repeat (first|(apply J.lt; intro _)|apply J.rq|apply J.bif|exact J.rt rfl)
set_option maxRecDepth 100000 in
theorem bG (x:ShX sh0) (y:BxX bx0) (kn:ShX sh0→BxX bx0→Option Res) (ke:Nat→ShX sh0→BxX bx0→Option Res) (kr:ShX aM→BxX aN→Option Res):d9 E0 D (aJ E0 D tab 8) (aD (codeOf Tryz.f15) 0) (inj 79 sh0 bx0 x y) (dN sh0 bx0 aW aM aN bC kn ke kr)=g0 (fun c z=>req c z) kn ke kr x y:=by kernel_rfl
theorem cB:Nonempty (Told E0 D tab Tryz.f15.ntmps (aD (codeOf Tryz.f15) 0) 79 sh0 bx0 aW aM aN (bf [1] (rounds (fun rq kn ke kr x y=>g0 rq kn ke kr x y) () ()) fu0)):=
 dh (sh:=sh0) (bx:=bx0) (ord:=aW) (shR:=aM) (bxR:=aN) bC 8 (by kernel_rfl) (by kernel_rfl) (by kernel_rfl) [1] fu0 () () (fun rq kn ke kr x y=>g0 rq kn ke kr x y) (fun rq kn ke kr x y=>g0 rq kn ke kr x y) (bG) (by
  intro φ kn1 kn2 ke1 ke2 kr1 kr2 h1 h2 h3 x y
  simp only [g0]
  with_reducible repeat (first|(apply J.lt; intro _)|apply J.rq|apply J.bif|exact h1 _ _|exact h2 _ (by decide) _ _|exact h3 (by decide) _ _))
theorem cK:fQ E0 D tab Tryz.f15.ntmps (codeOf Tryz.f15):=bY (bs:= [aD (codeOf Tryz.f15) 0]) (by kernel_rfl) (aK (cZ (by kernel_rfl) (cB)) bn)
theorem ok:dD Tryz.f15=true:=by kernel_rfl
abbrev aS:List AS:= [.one (.val (.ref au)),.one (.val (.int .i64)),.one (.val (.sl dM))]
abbrev bS:List Ty:= []
noncomputable def F (x:ASs aS) (y:Bs bS):Brn Res:=brn (r x.1 x.2.1 x.2.2.1)
theorem good (x:ASs aS) (y:Bs bS) (h:(F x y).res.1=true):Good Tryz.prog 15 (ASs.mk aS x) (Bs.mk bS y) (F x y).res.2:=
 aF hE0 (aA _) Tryz.func15 ok cK aj (run x.1 x.2.1 x.2.2.1) (rel x.1 x.2.1 x.2.2.1) h
noncomputable def ent:Ent Tryz.prog:=⟨15,shF aS bS F,aB good⟩
noncomputable def ro:(Option ai)→Int→(List bL)→Bool×X:=Classical.choose (⟨r,rfl⟩:∃ q:(Option ai)→Int→(List bL)→Bool×X,q=r)
theorem fT:ro=r:=Classical.choose_spec (⟨r,rfl⟩:∃ q:(Option ai)→Int→(List bL)→Bool×X,q=r)
noncomputable def FO (x:ASs aS) (y:Bs bS):Brn Res:=brn (ro x.1 x.2.1 x.2.2.1)
theorem kY:FO=F:=by unfold FO F; rw [fT]
noncomputable def oF:Ent Tryz.prog:=⟨15,shF aS bS FO,aB (by rw [kY]; exact good)⟩
end bQ
namespace bN
abbrev X:Type:=Bool
noncomputable def res (x:Bool):Res:=⟨[.val ⟨.bool,x⟩],[],[]⟩
noncomputable def brn (w:Bool×X):Brn Res:= .one w.1 (res w.2)
theorem aj (w:Bool×X):(brn w).res=(w.1,res w.2):=rfl
abbrev sh0:List (Nat×Sh):= [(0,.p (.sl (.arr 4 (.int .u64)))),(1,.p (.sl (.arr 4 (.int .u64)))),(4,.p .bool),(5,.p (.int .i64))]
abbrev bx0:List (Nat×Ty):= []
abbrev aW:List (Nat×Ty):= []
abbrev aM:List (Nat×Sh):= [(4,.p .bool)]
abbrev aN:List (Nat×Ty):= []
abbrev bC:List (Nat×Ty):= []
abbrev X0:Type:=(List (List Int))×(List (List Int))×Bool×Int×Unit
abbrev Y0:Type:=Unit
abbrev U0:Type:=Bool×Unit
abbrev V0:Type:=Unit
noncomputable def g0 {Z:Type} (rq:Bool→Z→Z) (kn:X0→Y0→Z) (ke:Nat→X0→Y0→Z) (kr:U0→V0→Z) (x:X0) (y:Y0):Z:=
lt (x.1.length:Int) fun (v1588:Int)=>
lt (ilt x.2.2.2.1 v1588) fun v1589=>
bif v1589 then
lt (x.1.getD x.2.2.2.1.toNat [0,0,0,0]) fun (v1590:(List Int))=>
rq (ile (0:Int) x.2.2.2.1&&ilt x.2.2.2.1 (x.1.length:Int))<|
lt (x.2.1.getD x.2.2.2.1.toNat [0,0,0,0]) fun (v1591:(List Int))=>
rq (ile (0:Int) x.2.2.2.1&&ilt x.2.2.2.1 (x.2.1.length:Int))<|
lt (!(ieq (v1590.getD 0 0) (v1591.getD 0 0)&&(ieq (v1590.getD 1 0) (v1591.getD 1 0)&&(ieq (v1590.getD 2 0) (v1591.getD 2 0)&&(ieq (v1590.getD 3 0) (v1591.getD 3 0)&&true))))) fun (v1592:Bool)=>
bif v1592 then
kr (false,()) ()
else
lt (IntKind.i64.wrap (x.2.2.2.1+1)) fun v1593=>
kn (x.1,x.2.1,x.2.2.1,v1593,()) ()
else
ke 0 (x.1,x.2.1,x.2.2.1,x.2.2.2.1,()) ()
noncomputable def fu0 (x:X0) (y:Y0):Nat:=((x.1.length:Int) - x.2.2.2.1).toNat+1
noncomputable def l0 (x:X0) (y:Y0):Bool×Nat×X0×Y0×U0×V0:=rounds (fun rq kn ke kr x y=>g0 rq kn ke kr x y) (false,()) () (fu0 x y) x y
noncomputable def g {Z:Type} (rq:Bool→Z→Z) (rt:X→Z) (a:(List (List Int))) (b:(List (List Int))):Z:=
lt (a.length:Int) fun (v1583:Int)=>
lt (b.length:Int) fun (v1584:Int)=>
lt (v1583 != v1584) fun (v1585:Bool)=>
bif v1585 then
rt false
else
lt (bN.l0 (a,b,false,0,()) ()) fun w1594=>
rq w1594.1<|
bif Nat.beq w1594.2.1 0 then
rt w1594.2.2.2.2.1.1
else
rt true
noncomputable def r (a:(List (List Int))) (b:(List (List Int))):Bool×X:=g chk (fun x=>(true,x)) a b
noncomputable def D:aP:=Dof (P:=Tryz.prog) []
noncomputable def tab:List (Nat×LE Res):= [(5,.typed (fH 26 sh0 bx0 aW aM aN (bf [0,1] (rounds (fun rq kn ke kr x y=>g0 rq kn ke kr x y) (false,()) ()) fu0)))]
set_option maxRecDepth 100000 in
theorem run (a:(List (List Int))) (b:(List (List Int))):aQ E0 [true] D (aJ E0 D tab 9) Tryz.f17 (codeOf Tryz.f17) [.val ⟨.sl (.arr 4 (.int .u64)),a⟩,.val ⟨.sl (.arr 4 (.int .u64)),b⟩] []=g (fun c z=>req c z) (fun x=>some (res x)) a b:=by kernel_rfl
theorem rel (a:(List (List Int))) (b:(List (List Int))):J (fun w z=>z=some (res w)) (g chk (fun x=>(true,x)) a b) (g (fun c z=>req c z) (fun x=>some (res x)) a b):=by
 unfold g
 with_reducible repeat (first|(apply J.lt; intro _)|apply J.rq|apply J.bif|exact J.rt rfl)
set_option maxRecDepth 100000 in
theorem bG (x:ShX sh0) (y:BxX bx0) (kn:ShX sh0→BxX bx0→Option Res) (ke:Nat→ShX sh0→BxX bx0→Option Res) (kr:ShX aM→BxX aN→Option Res):d9 E0 D (aJ E0 D tab 8) (aD (codeOf Tryz.f17) 0) (inj 26 sh0 bx0 x y) (dN sh0 bx0 aW aM aN bC kn ke kr)=g0 (fun c z=>req c z) kn ke kr x y:=by kernel_rfl
theorem cB:Nonempty (Told E0 D tab Tryz.f17.ntmps (aD (codeOf Tryz.f17) 0) 26 sh0 bx0 aW aM aN (bf [0,1] (rounds (fun rq kn ke kr x y=>g0 rq kn ke kr x y) (false,()) ()) fu0)):=
 dh (sh:=sh0) (bx:=bx0) (ord:=aW) (shR:=aM) (bxR:=aN) bC 8 (by kernel_rfl) (by kernel_rfl) (by kernel_rfl) [0,1] fu0 (false,()) () (fun rq kn ke kr x y=>g0 rq kn ke kr x y) (fun rq kn ke kr x y=>g0 rq kn ke kr x y) (bG) (by
  intro φ kn1 kn2 ke1 ke2 kr1 kr2 h1 h2 h3 x y
  simp only [g0]
  with_reducible repeat (first|(apply J.lt; intro _)|apply J.rq|apply J.bif|exact h1 _ _|exact h2 _ (by decide) _ _|exact h3 (by decide) _ _))
theorem cK:fQ E0 D tab Tryz.f17.ntmps (codeOf Tryz.f17):=bY (bs:= [aD (codeOf Tryz.f17) 0]) (by kernel_rfl) (aK (cZ (by kernel_rfl) (cB)) bn)
theorem ok:dD Tryz.f17=true:=by kernel_rfl
abbrev aS:List AS:= [.one (.val (.sl (.arr 4 (.int .u64)))),.one (.val (.sl (.arr 4 (.int .u64))))]
abbrev bS:List Ty:= []
noncomputable def F (x:ASs aS) (y:Bs bS):Brn Res:=brn (r x.1 x.2.1)
theorem good (x:ASs aS) (y:Bs bS) (h:(F x y).res.1=true):Good Tryz.prog 17 (ASs.mk aS x) (Bs.mk bS y) (F x y).res.2:=
 aF hE0 (aA _) Tryz.func17 ok cK aj (run x.1 x.2.1) (rel x.1 x.2.1) h
noncomputable def ent:Ent Tryz.prog:=⟨17,shF aS bS F,aB good⟩
noncomputable def ro:(List (List Int))→(List (List Int))→Bool×X:=Classical.choose (⟨r,rfl⟩:∃ q:(List (List Int))→(List (List Int))→Bool×X,q=r)
theorem fT:ro=r:=Classical.choose_spec (⟨r,rfl⟩:∃ q:(List (List Int))→(List (List Int))→Bool×X,q=r)
noncomputable def FO (x:ASs aS) (y:Bs bS):Brn Res:=brn (ro x.1 x.2.1)
theorem kY:FO=F:=by unfold FO F; rw [fT]
noncomputable def oF:Ent Tryz.prog:=⟨17,shF aS bS FO,aB (by rw [kY]; exact good)⟩
end bN
namespace aI
abbrev X:Type:=Bool
noncomputable def res (x:Bool):Res:=⟨[.val ⟨.bool,x⟩],[],[]⟩
noncomputable def brn (w:Bool×X):Brn Res:= .one w.1 (res w.2)
theorem aj (w:Bool×X):(brn w).res=(w.1,res w.2):=rfl
noncomputable def g {Z:Type} (rq:Bool→Z→Z) (rt:X→Z):Z:=
lt (dL.ro 0) fun w1165=>
rq w1165.1<|
lt (bA.ro 5) fun w1200=>
rq w1200.1<|
lt (bA.ro 2) fun w1201=>
rq w1201.1<|
lt (bZ.ro w1165.2.1 [w1200.2,w1201.2] 3) fun w1242=>
rq w1242.1<|
lt (!w1165.2.2.2) fun (v1243:Bool)=>
bif v1243 then
rt false
else
lt (w1242.2.2 != 0) fun (v1244:Bool)=>
bif v1244 then
rt false
else
lt (bA.ro 7) fun w1245=>
rq w1245.1<|
lt (bA.ro 9) fun w1246=>
rq w1246.1<|
lt (bA.ro 11) fun w1247=>
rq w1247.1<|
lt (bD.ro w1242.2.1 [(1,(w1245.2,())),(2,(w1246.2,())),(3,(w1247.2,()))]) fun w1260=>
rq w1260.1<|
lt (!w1260.2) fun (v1261:Bool)=>
bif v1261 then
rt false
else
lt ((w1242.2.1.drop 1).take ((w1242.2.1.length:Int).toNat - 1)) fun (v1262:(List bL))=>
rq (ile (1:Int) (w1242.2.1.length:Int)&&ile (w1242.2.1.length:Int) (w1242.2.1.length:Int))<|
lt (bQ.ro w1165.2.1 1 v1262) fun w1579=>
bif Nat.beq w1579.2.1 0 then
rq w1579.1<|
lt (bQ.ro w1165.2.1 0 w1242.2.1) fun w1580=>
bif Nat.beq w1580.2.1 0 then
rq w1580.1<|
lt (bA.ro 5) fun w1581=>
rq w1581.1<|
lt (bA.ro 2) fun w1582=>
rq w1582.1<|
lt (bN.ro [] [w1581.2,w1582.2]) fun w1595=>
rq w1595.1<|
bif w1595.2 then
lt (w1579.2.2.1== 0) fun (v1596:Bool)=>
bif v1596 then
lt (w1580.2.2.1== 4) fun (v1597:Bool)=>
rt v1597
else
rt false
else
rt false
else
rq w1580.1<|
lt (bA.ro 5) fun w1598=>
rq w1598.1<|
lt (bA.ro 2) fun w1599=>
rq w1599.1<|
lt (bN.ro [] [w1598.2,w1599.2]) fun w1600=>
rq w1600.1<|
bif w1600.2 then
lt (w1579.2.2.1== 0) fun (v1601:Bool)=>
bif v1601 then
lt (w1580.2.2.2.2.2.1== 4) fun (v1602:Bool)=>
rt v1602
else
rt false
else
rt false
else
rq w1579.1<|
lt (bQ.ro w1165.2.1 0 w1242.2.1) fun w1603=>
bif Nat.beq w1603.2.1 0 then
rq w1603.1<|
lt (bA.ro 5) fun w1604=>
rq w1604.1<|
lt (bA.ro 2) fun w1605=>
rq w1605.1<|
lt (bN.ro ((w1579.2.2.2.2.2.2.2.drop w1579.2.2.2.1).take w1579.2.2.2.2.1) [w1604.2,w1605.2]) fun w1606=>
rq w1606.1<|
bif w1606.2 then
lt (w1579.2.2.2.2.2.1== 0) fun (v1607:Bool)=>
bif v1607 then
lt (w1603.2.2.1== 4) fun (v1608:Bool)=>
rt v1608
else
rt false
else
rt false
else
rq w1603.1<|
lt (bA.ro 5) fun w1609=>
rq w1609.1<|
lt (bA.ro 2) fun w1610=>
rq w1610.1<|
lt (bN.ro ((w1579.2.2.2.2.2.2.2.drop w1579.2.2.2.1).take w1579.2.2.2.2.1) [w1609.2,w1610.2]) fun w1611=>
rq w1611.1<|
bif w1611.2 then
lt (w1579.2.2.2.2.2.1== 0) fun (v1612:Bool)=>
bif v1612 then
lt (w1603.2.2.2.2.2.1== 4) fun (v1613:Bool)=>
rt v1613
else
rt false
else
rt false
noncomputable def r:Bool×X:=g chk (fun x=>(true,x))
noncomputable def D:aP:=Dof (P:=Tryz.prog) [dL.oF,bA.oF,bZ.oF,bD.oF,bQ.oF,bN.oF]
noncomputable def tab:List (Nat×LE Res):= []
set_option maxRecDepth 100000 in
theorem run:aQ E0 [true] D (aJ E0 D tab 9) Tryz.f5 (codeOf Tryz.f5) [] []=g (fun c z=>req c z) (fun x=>some (res x)):=by kernel_rfl
theorem rel:J (fun w z=>z=some (res w)) (g chk (fun x=>(true,x))) (g (fun c z=>req c z) (fun x=>some (res x))):=by
 unfold g
 with_reducible repeat (first|(apply J.lt; intro _)|apply J.rq|apply J.bif|exact J.rt rfl)
theorem ok:dD Tryz.f5=true:=by kernel_rfl
abbrev aS:List AS:= []
abbrev bS:List Ty:= []
noncomputable def F (_:ASs aS) (_:Bs bS):Brn Res:=brn r
theorem good (x:ASs aS) (y:Bs bS) (h:(F x y).res.1=true):Good Tryz.prog 5 (ASs.mk aS x) (Bs.mk bS y) (F x y).res.2:=
 aF hE0 (aA _) Tryz.func5 ok aO aj (run) (rel) h
noncomputable def ent:Ent Tryz.prog:=⟨5,shF aS bS F,aB good⟩
noncomputable def ro:Bool×X:=Classical.choose (⟨r,rfl⟩:∃ q:Bool×X,q=r)
theorem fT:ro=r:=Classical.choose_spec (⟨r,rfl⟩:∃ q:Bool×X,q=r)
noncomputable def FO (_:ASs aS) (_:Bs bS):Brn Res:=brn ro
theorem kY:FO=F:=by unfold FO F; rw [fT]
noncomputable def oF:Ent Tryz.prog:=⟨5,shF aS bS FO,aB (by rw [kY]; exact good)⟩
end aI
namespace dQ
abbrev X:Type:=(List Int)
noncomputable def res (x:(List Int)):Res:=⟨[.val ⟨.arr 32 (.int .i64),x⟩],[],[]⟩
noncomputable def brn (w:Bool×X):Brn Res:= .one w.1 (res w.2)
theorem aj (w:Bool×X):(brn w).res=(w.1,res w.2):=rfl
abbrev sh0:List (Nat×Sh):= [(2,.pb 500000 (.arr 4 (.int .u64)) []),(3,.pb 500001 (.arr 4 (.int .u64)) []),(4,.pb 500002 (.arr 32 (.int .i64)) []),(5,.pb 500003 (.arr 32 (.int .i64)) []),(6,.p (.int .i64))]
abbrev bx0:List (Nat×Ty):= [(500000,.arr 4 (.int .u64)),(500001,.arr 4 (.int .u64)),(500002,.arr 32 (.int .i64)),(500003,.arr 32 (.int .i64))]
abbrev aW:List (Nat×Ty):= [(500000,.arr 4 (.int .u64)),(500001,.arr 4 (.int .u64)),(500002,.arr 32 (.int .i64)),(500003,.arr 32 (.int .i64))]
abbrev aM:List (Nat×Sh):= []
abbrev aN:List (Nat×Ty):= []
abbrev bC:List (Nat×Ty):= []
abbrev X0:Type:=Unit×Unit×Unit×Unit×Int×Unit
abbrev Y0:Type:=(List Int)×(List Int)×(List Int)×(List Int)×Unit
abbrev U0:Type:=Unit
abbrev V0:Type:=Unit
noncomputable def g0 {Z:Type} (rq:Bool→Z→Z) (kn:X0→Y0→Z) (ke:Nat→X0→Y0→Z) (kr:U0→V0→Z) (x:X0) (y:Y0):Z:=
lt (ilt x.2.2.2.2.1 16) fun v1728=>
bif v1728 then
lt (IntKind.i64.wrap (x.2.2.2.2.1.tdiv 4)) fun v1729=>
rq (ile (0:Int) v1729&&ilt v1729 4)<|
lt (y.1.getD v1729.toNat 0) fun (v1730:Int)=>
lt (x.2.2.2.2.1.tmod 4) fun (v1731:Int)=>
lt (IntKind.i64.wrap ((16:Int)*v1731)) fun v1732=>
lt (v1730.fdiv (2^(min v1732.toNat 64))) fun (v1733:Int)=>
rq (!ilt v1732 0)<|
lt (eB .u64 (· &&& ·) v1733 (65535:Int)) fun v1734=>
lt (IntKind.i64.wrap (v1734)) fun v1735=>
rq (ile (0:Int) x.2.2.2.2.1&&ilt x.2.2.2.2.1 32)<|
lt (y.2.2.2.1.set x.2.2.2.2.1.toNat v1735) fun (v1736:(List Int))=>
lt (IntKind.i64.wrap ((16:Int)+x.2.2.2.2.1)) fun v1737=>
lt (IntKind.i64.wrap (x.2.2.2.2.1.tdiv 4)) fun v1738=>
rq (ile (0:Int) v1738&&ilt v1738 4)<|
lt (y.2.1.getD v1738.toNat 0) fun (v1739:Int)=>
lt (x.2.2.2.2.1.tmod 4) fun (v1740:Int)=>
lt (IntKind.i64.wrap ((16:Int)*v1740)) fun v1741=>
lt (v1739.fdiv (2^(min v1741.toNat 64))) fun (v1742:Int)=>
rq (!ilt v1741 0)<|
lt (eB .u64 (· &&& ·) v1742 (65535:Int)) fun v1743=>
lt (IntKind.i64.wrap (v1743)) fun v1744=>
rq (ile (0:Int) v1737&&ilt v1737 32)<|
lt (v1736.set v1737.toNat v1744) fun (v1745:(List Int))=>
lt (IntKind.i64.wrap (x.2.2.2.2.1+1)) fun v1746=>
kn ((),(),(),(),v1746,()) (y.1,y.2.1,y.2.2.1,v1745,())
else
ke 0 ((),(),(),(),x.2.2.2.2.1,()) (y.1,y.2.1,y.2.2.1,y.2.2.2.1,())
noncomputable def fu0 (x:X0) (y:Y0):Nat:=((16:Int) - x.2.2.2.2.1).toNat+1
noncomputable def l0 (x:X0) (y:Y0):Bool×Nat×X0×Y0×U0×V0:=rounds (fun rq kn ke kr x y=>g0 rq kn ke kr x y) () () (fu0 x y) x y
noncomputable def g {Z:Type} (rq:Bool→Z→Z) (rt:X→Z) (low:(List Int)) (high:(List Int)):Z:=
lt (List.replicate 32 0) fun (v1635:(List Int))=>
lt (List.replicate 32 0) fun (v1636:(List Int))=>
lt (List.replicate 32 0) fun (v1637:(List Int))=>
lt (dQ.l0 ((),(),(),(),0,()) (low,high,v1635,v1636,())) fun w1747=>
rq w1747.1<|
rt w1747.2.2.2.1.2.2.2.1
noncomputable def r (low:(List Int)) (high:(List Int)):Bool×X:=g chk (fun x=>(true,x)) low high
noncomputable def D:aP:=Dof (P:=Tryz.prog) []
noncomputable def tab:List (Nat×LE Res):= [(4,.typed (fH 38 sh0 bx0 aW aM aN (bf [1] (rounds (fun rq kn ke kr x y=>g0 rq kn ke kr x y) () ()) fu0)))]
set_option maxRecDepth 100000 in
theorem run (low:(List Int)) (high:(List Int)):aQ E0 [true] D (aJ E0 D tab 9) Tryz.f70 (codeOf Tryz.f70) [.val ⟨.arr 4 (.int .u64),low⟩,.val ⟨.arr 4 (.int .u64),high⟩] []=g (fun c z=>req c z) (fun x=>some (res x)) low high:=by kernel_rfl
theorem rel (low:(List Int)) (high:(List Int)):J (fun w z=>z=some (res w)) (g chk (fun x=>(true,x)) low high) (g (fun c z=>req c z) (fun x=>some (res x)) low high):=by
 unfold g
 with_reducible repeat (first|(apply J.lt; intro _)|apply J.rq|apply J.bif|exact J.rt rfl)
set_option maxRecDepth 100000 in
theorem bG (x:ShX sh0) (y:BxX bx0) (kn:ShX sh0→BxX bx0→Option Res) (ke:Nat→ShX sh0→BxX bx0→Option Res) (kr:ShX aM→BxX aN→Option Res):d9 E0 D (aJ E0 D tab 8) (aD (codeOf Tryz.f70) 0) (inj 38 sh0 bx0 x y) (dN sh0 bx0 aW aM aN bC kn ke kr)=g0 (fun c z=>req c z) kn ke kr x y:=by kernel_rfl
theorem cB:Nonempty (Told E0 D tab Tryz.f70.ntmps (aD (codeOf Tryz.f70) 0) 38 sh0 bx0 aW aM aN (bf [1] (rounds (fun rq kn ke kr x y=>g0 rq kn ke kr x y) () ()) fu0)):=
 dh (sh:=sh0) (bx:=bx0) (ord:=aW) (shR:=aM) (bxR:=aN) bC 8 (by kernel_rfl) (by kernel_rfl) (by kernel_rfl) [1] fu0 () () (fun rq kn ke kr x y=>g0 rq kn ke kr x y) (fun rq kn ke kr x y=>g0 rq kn ke kr x y) (bG) (by
  intro φ kn1 kn2 ke1 ke2 kr1 kr2 h1 h2 h3 x y
  simp only [g0]
  with_reducible repeat (first|(apply J.lt; intro _)|apply J.rq|apply J.bif|exact h1 _ _|exact h2 _ (by decide) _ _|exact h3 (by decide) _ _))
theorem cK:fQ E0 D tab Tryz.f70.ntmps (codeOf Tryz.f70):=bY (bs:= [aD (codeOf Tryz.f70) 0]) (by kernel_rfl) (aK (cZ (by kernel_rfl) (cB)) bn)
theorem ok:dD Tryz.f70=true:=by kernel_rfl
abbrev aS:List AS:= [.one (.val (.arr 4 (.int .u64))),.one (.val (.arr 4 (.int .u64)))]
abbrev bS:List Ty:= []
noncomputable def F (x:ASs aS) (y:Bs bS):Brn Res:=brn (r x.1 x.2.1)
theorem good (x:ASs aS) (y:Bs bS) (h:(F x y).res.1=true):Good Tryz.prog 70 (ASs.mk aS x) (Bs.mk bS y) (F x y).res.2:=
 aF hE0 (aA _) Tryz.func70 ok cK aj (run x.1 x.2.1) (rel x.1 x.2.1) h
noncomputable def ent:Ent Tryz.prog:=⟨70,shF aS bS F,aB good⟩
end dQ
namespace dm
abbrev X:Type:=(List Int)
noncomputable def res (x:(List Int)):Res:=⟨[.val ⟨.arr 32 (.int .i64),x⟩],[],[]⟩
noncomputable def brn (w:Bool×X):Brn Res:= .one w.1 (res w.2)
theorem aj (w:Bool×X):(brn w).res=(w.1,res w.2):=rfl
abbrev sh0:List (Nat×Sh):= [(2,.pb 500000 (.arr 32 (.int .i64)) []),(4,.pb 500001 (.arr 32 (.int .i64)) []),(5,.pb 500002 (.arr 32 (.int .i64)) []),(6,.p (.int .i64)),(7,.p (.int .i64))]
abbrev bx0:List (Nat×Ty):= [(500000,.arr 32 (.int .i64)),(500001,.arr 32 (.int .i64)),(500002,.arr 32 (.int .i64))]
abbrev aW:List (Nat×Ty):= [(500000,.arr 32 (.int .i64)),(500001,.arr 32 (.int .i64)),(500002,.arr 32 (.int .i64))]
abbrev aM:List (Nat×Sh):= []
abbrev aN:List (Nat×Ty):= []
abbrev bC:List (Nat×Ty):= []
abbrev X0:Type:=Unit×Unit×Unit×Int×Int×Unit
abbrev Y0:Type:=(List Int)×(List Int)×(List Int)×Unit
abbrev U0:Type:=Unit
abbrev V0:Type:=Unit
noncomputable def g0 {Z:Type} (rq:Bool→Z→Z) (kn:X0→Y0→Z) (ke:Nat→X0→Y0→Z) (kr:U0→V0→Z) (x:X0) (y:Y0):Z:=
lt (ilt x.2.2.2.2.1 32) fun v1816=>
bif v1816 then
rq (ile (0:Int) x.2.2.2.2.1&&ilt x.2.2.2.2.1 32)<|
lt (y.1.getD x.2.2.2.2.1.toNat 0) fun (v1817:Int)=>
lt (IntKind.i64.wrap ((2:Int)*v1817)) fun v1818=>
lt (IntKind.i64.wrap (v1818+x.2.2.2.1)) fun v1819=>
lt (eB .i64 (· &&& ·) v1819 (65535:Int)) fun v1820=>
rq (ile (0:Int) x.2.2.2.2.1&&ilt x.2.2.2.2.1 32)<|
lt (y.2.2.1.set x.2.2.2.2.1.toNat v1820) fun (v1821:(List Int))=>
lt (v1819.fdiv (2^16)) fun (v1822:Int)=>
lt (IntKind.i64.wrap (x.2.2.2.2.1+1)) fun v1823=>
kn ((),(),(),v1822,v1823,()) (y.1,y.2.1,v1821,())
else
ke 0 ((),(),(),x.2.2.2.1,x.2.2.2.2.1,()) (y.1,y.2.1,y.2.2.1,())
noncomputable def fu0 (x:X0) (y:Y0):Nat:=((32:Int) - x.2.2.2.2.1).toNat+1
noncomputable def l0 (x:X0) (y:Y0):Bool×Nat×X0×Y0×U0×V0:=rounds (fun rq kn ke kr x y=>g0 rq kn ke kr x y) () () (fu0 x y) x y
noncomputable def g {Z:Type} (rq:Bool→Z→Z) (rt:X→Z) (a:(List Int)) (one:Int):Z:=
lt (List.replicate 32 0) fun (v1759:(List Int))=>
lt (List.replicate 32 0) fun (v1760:(List Int))=>
lt (List.replicate 32 0) fun (v1761:(List Int))=>
lt (dm.l0 ((),(),(),one,0,()) (a,v1759,v1760,())) fun w1824=>
rq w1824.1<|
rt w1824.2.2.2.1.2.2.1
noncomputable def r (a:(List Int)) (one:Int):Bool×X:=g chk (fun x=>(true,x)) a one
noncomputable def D:aP:=Dof (P:=Tryz.prog) []
noncomputable def tab:List (Nat×LE Res):= [(5,.typed (fH 28 sh0 bx0 aW aM aN (bf [1] (rounds (fun rq kn ke kr x y=>g0 rq kn ke kr x y) () ()) fu0)))]
set_option maxRecDepth 100000 in
theorem run (a:(List Int)) (one:Int):aQ E0 [true] D (aJ E0 D tab 9) Tryz.f98 (codeOf Tryz.f98) [.val ⟨.arr 32 (.int .i64),a⟩,.val ⟨.int .i64,one⟩] []=g (fun c z=>req c z) (fun x=>some (res x)) a one:=by kernel_rfl
theorem rel (a:(List Int)) (one:Int):J (fun w z=>z=some (res w)) (g chk (fun x=>(true,x)) a one) (g (fun c z=>req c z) (fun x=>some (res x)) a one):=by
 unfold g
 with_reducible repeat (first|(apply J.lt; intro _)|apply J.rq|apply J.bif|exact J.rt rfl)
set_option maxRecDepth 100000 in
theorem bG (x:ShX sh0) (y:BxX bx0) (kn:ShX sh0→BxX bx0→Option Res) (ke:Nat→ShX sh0→BxX bx0→Option Res) (kr:ShX aM→BxX aN→Option Res):d9 E0 D (aJ E0 D tab 8) (aD (codeOf Tryz.f98) 0) (inj 28 sh0 bx0 x y) (dN sh0 bx0 aW aM aN bC kn ke kr)=g0 (fun c z=>req c z) kn ke kr x y:=by kernel_rfl
theorem cB:Nonempty (Told E0 D tab Tryz.f98.ntmps (aD (codeOf Tryz.f98) 0) 28 sh0 bx0 aW aM aN (bf [1] (rounds (fun rq kn ke kr x y=>g0 rq kn ke kr x y) () ()) fu0)):=
 dh (sh:=sh0) (bx:=bx0) (ord:=aW) (shR:=aM) (bxR:=aN) bC 8 (by kernel_rfl) (by kernel_rfl) (by kernel_rfl) [1] fu0 () () (fun rq kn ke kr x y=>g0 rq kn ke kr x y) (fun rq kn ke kr x y=>g0 rq kn ke kr x y) (bG) (by
  intro φ kn1 kn2 ke1 ke2 kr1 kr2 h1 h2 h3 x y
  simp only [g0]
  with_reducible repeat (first|(apply J.lt; intro _)|apply J.rq|apply J.bif|exact h1 _ _|exact h2 _ (by decide) _ _|exact h3 (by decide) _ _))
theorem cK:fQ E0 D tab Tryz.f98.ntmps (codeOf Tryz.f98):=bY (bs:= [aD (codeOf Tryz.f98) 0]) (by kernel_rfl) (aK (cZ (by kernel_rfl) (cB)) bn)
theorem ok:dD Tryz.f98=true:=by kernel_rfl
abbrev aS:List AS:= [.one (.val (.arr 32 (.int .i64))),.one (.val (.int .i64))]
abbrev bS:List Ty:= []
noncomputable def F (x:ASs aS) (y:Bs bS):Brn Res:=brn (r x.1 x.2.1)
theorem good (x:ASs aS) (y:Bs bS) (h:(F x y).res.1=true):Good Tryz.prog 98 (ASs.mk aS x) (Bs.mk bS y) (F x y).res.2:=
 aF hE0 (aA _) Tryz.func98 ok cK aj (run x.1 x.2.1) (rel x.1 x.2.1) h
noncomputable def ent:Ent Tryz.prog:=⟨98,shF aS bS F,aB good⟩
end dm
namespace dK
abbrev X:Type:=Bool
noncomputable def res (x:Bool):Res:=⟨[.val ⟨.bool,x⟩],[],[]⟩
noncomputable def brn (w:Bool×X):Brn Res:= .one w.1 (res w.2)
theorem aj (w:Bool×X):(brn w).res=(w.1,res w.2):=rfl
abbrev sh0:List (Nat×Sh):= [(2,.pb 500000 (.arr 32 (.int .i64)) []),(3,.pb 500001 (.arr 32 (.int .i64)) []),(4,.p .bool),(5,.p (.int .i64))]
abbrev bx0:List (Nat×Ty):= [(500000,.arr 32 (.int .i64)),(500001,.arr 32 (.int .i64))]
abbrev aW:List (Nat×Ty):= [(500000,.arr 32 (.int .i64)),(500001,.arr 32 (.int .i64))]
abbrev aM:List (Nat×Sh):= [(4,.p .bool)]
abbrev aN:List (Nat×Ty):= []
abbrev bC:List (Nat×Ty):= []
abbrev X0:Type:=Unit×Unit×Bool×Int×Unit
abbrev Y0:Type:=(List Int)×(List Int)×Unit
abbrev U0:Type:=Bool×Unit
abbrev V0:Type:=Unit
noncomputable def g0 {Z:Type} (rq:Bool→Z→Z) (kn:X0→Y0→Z) (ke:Nat→X0→Y0→Z) (kr:U0→V0→Z) (x:X0) (y:Y0):Z:=
lt (ile 0 x.2.2.2.1) fun v1880=>
bif v1880 then
rq (ile (0:Int) x.2.2.2.1&&ilt x.2.2.2.1 32)<|
lt (y.1.getD x.2.2.2.1.toNat 0) fun (v1881:Int)=>
rq (ile (0:Int) x.2.2.2.1&&ilt x.2.2.2.1 32)<|
lt (y.2.1.getD x.2.2.2.1.toNat 0) fun (v1882:Int)=>
lt (v1881 != v1882) fun (v1883:Bool)=>
bif v1883 then
rq (ile (0:Int) x.2.2.2.1&&ilt x.2.2.2.1 32)<|
lt (y.1.getD x.2.2.2.1.toNat 0) fun (v1884:Int)=>
rq (ile (0:Int) x.2.2.2.1&&ilt x.2.2.2.1 32)<|
lt (y.2.1.getD x.2.2.2.1.toNat 0) fun (v1885:Int)=>
lt (ilt v1884 v1885) fun v1886=>
kr (v1886,()) ()
else
lt (IntKind.i64.wrap (x.2.2.2.1 - 1)) fun v1887=>
kn ((),(),x.2.2.1,v1887,()) (y.1,y.2.1,())
else
ke 0 ((),(),x.2.2.1,x.2.2.2.1,()) (y.1,y.2.1,())
noncomputable def fu0 (x:X0) (y:Y0):Nat:=(x.2.2.2.1 - (0:Int)+1).toNat+1
noncomputable def l0 (x:X0) (y:Y0):Bool×Nat×X0×Y0×U0×V0:=rounds (fun rq kn ke kr x y=>g0 rq kn ke kr x y) (false,()) () (fu0 x y) x y
noncomputable def g {Z:Type} (rq:Bool→Z→Z) (rt:X→Z) (a:(List Int)) (b:(List Int)):Z:=
lt (dK.l0 ((),(),false,31,()) (a,b,())) fun w1888=>
rq w1888.1<|
bif Nat.beq w1888.2.1 0 then
rt w1888.2.2.2.2.1.1
else
rt false
noncomputable def r (a:(List Int)) (b:(List Int)):Bool×X:=g chk (fun x=>(true,x)) a b
noncomputable def D:aP:=Dof (P:=Tryz.prog) []
noncomputable def tab:List (Nat×LE Res):= [(3,.typed (fH 24 sh0 bx0 aW aM aN (bf [0,1] (rounds (fun rq kn ke kr x y=>g0 rq kn ke kr x y) (false,()) ()) fu0)))]
set_option maxRecDepth 100000 in
theorem run (a:(List Int)) (b:(List Int)):aQ E0 [true] D (aJ E0 D tab 9) Tryz.f99 (codeOf Tryz.f99) [.val ⟨.arr 32 (.int .i64),a⟩,.val ⟨.arr 32 (.int .i64),b⟩] []=g (fun c z=>req c z) (fun x=>some (res x)) a b:=by kernel_rfl
theorem rel (a:(List Int)) (b:(List Int)):J (fun w z=>z=some (res w)) (g chk (fun x=>(true,x)) a b) (g (fun c z=>req c z) (fun x=>some (res x)) a b):=by
 unfold g
 with_reducible repeat (first|(apply J.lt; intro _)|apply J.rq|apply J.bif|exact J.rt rfl)
set_option maxRecDepth 100000 in
theorem bG (x:ShX sh0) (y:BxX bx0) (kn:ShX sh0→BxX bx0→Option Res) (ke:Nat→ShX sh0→BxX bx0→Option Res) (kr:ShX aM→BxX aN→Option Res):d9 E0 D (aJ E0 D tab 8) (aD (codeOf Tryz.f99) 0) (inj 24 sh0 bx0 x y) (dN sh0 bx0 aW aM aN bC kn ke kr)=g0 (fun c z=>req c z) kn ke kr x y:=by kernel_rfl
theorem cB:Nonempty (Told E0 D tab Tryz.f99.ntmps (aD (codeOf Tryz.f99) 0) 24 sh0 bx0 aW aM aN (bf [0,1] (rounds (fun rq kn ke kr x y=>g0 rq kn ke kr x y) (false,()) ()) fu0)):=
 dh (sh:=sh0) (bx:=bx0) (ord:=aW) (shR:=aM) (bxR:=aN) bC 8 (by kernel_rfl) (by kernel_rfl) (by kernel_rfl) [0,1] fu0 (false,()) () (fun rq kn ke kr x y=>g0 rq kn ke kr x y) (fun rq kn ke kr x y=>g0 rq kn ke kr x y) (bG) (by
  intro φ kn1 kn2 ke1 ke2 kr1 kr2 h1 h2 h3 x y
  simp only [g0]
  with_reducible repeat (first|(apply J.lt; intro _)|apply J.rq|apply J.bif|exact h1 _ _|exact h2 _ (by decide) _ _|exact h3 (by decide) _ _))
theorem cK:fQ E0 D tab Tryz.f99.ntmps (codeOf Tryz.f99):=bY (bs:= [aD (codeOf Tryz.f99) 0]) (by kernel_rfl) (aK (cZ (by kernel_rfl) (cB)) bn)
theorem ok:dD Tryz.f99=true:=by kernel_rfl
abbrev aS:List AS:= [.one (.val (.arr 32 (.int .i64))),.one (.val (.arr 32 (.int .i64)))]
abbrev bS:List Ty:= []
noncomputable def F (x:ASs aS) (y:Bs bS):Brn Res:=brn (r x.1 x.2.1)
theorem good (x:ASs aS) (y:Bs bS) (h:(F x y).res.1=true):Good Tryz.prog 99 (ASs.mk aS x) (Bs.mk bS y) (F x y).res.2:=
 aF hE0 (aA _) Tryz.func99 ok cK aj (run x.1 x.2.1) (rel x.1 x.2.1) h
noncomputable def ent:Ent Tryz.prog:=⟨99,shF aS bS F,aB good⟩
end dK
namespace dG
abbrev X:Type:=(List Int)
noncomputable def res (x:(List Int)):Res:=⟨[.val ⟨.arr 32 (.int .i64),x⟩],[],[]⟩
noncomputable def brn (w:Bool×X):Brn Res:= .one w.1 (res w.2)
theorem aj (w:Bool×X):(brn w).res=(w.1,res w.2):=rfl
abbrev sh0:List (Nat×Sh):= [(2,.pb 500000 (.arr 32 (.int .i64)) []),(3,.pb 500001 (.arr 32 (.int .i64)) []),(4,.pb 500002 (.arr 32 (.int .i64)) []),(5,.p (.int .i64)),(6,.pb 500003 (.arr 32 (.int .i64)) []),(7,.p (.int .i64))]
abbrev bx0:List (Nat×Ty):= [(500000,.arr 32 (.int .i64)),(500001,.arr 32 (.int .i64)),(500002,.arr 32 (.int .i64)),(500003,.arr 32 (.int .i64))]
abbrev aW:List (Nat×Ty):= [(500000,.arr 32 (.int .i64)),(500001,.arr 32 (.int .i64)),(500002,.arr 32 (.int .i64)),(500003,.arr 32 (.int .i64))]
abbrev aM:List (Nat×Sh):= []
abbrev aN:List (Nat×Ty):= []
abbrev bC:List (Nat×Ty):= []
abbrev X0:Type:=Unit×Unit×Unit×Int×Unit×Int×Unit
abbrev Y0:Type:=(List Int)×(List Int)×(List Int)×(List Int)×Unit
abbrev U0:Type:=Unit
abbrev V0:Type:=Unit
noncomputable def g0 {Z:Type} (rq:Bool→Z→Z) (kn:X0→Y0→Z) (ke:Nat→X0→Y0→Z) (kr:U0→V0→Z) (x:X0) (y:Y0):Z:=
lt (ilt x.2.2.2.2.2.1 32) fun v1957=>
bif v1957 then
rq (ile (0:Int) x.2.2.2.2.2.1&&ilt x.2.2.2.2.2.1 32)<|
lt (y.1.getD x.2.2.2.2.2.1.toNat 0) fun (v1958:Int)=>
rq (ile (0:Int) x.2.2.2.2.2.1&&ilt x.2.2.2.2.2.1 32)<|
lt (y.2.1.getD x.2.2.2.2.2.1.toNat 0) fun (v1959:Int)=>
lt (IntKind.i64.wrap (v1958 - v1959)) fun v1960=>
lt (IntKind.i64.wrap (v1960 - x.2.2.2.1)) fun v1961=>
lt (ilt v1961 0) fun v1962=>
bif v1962 then
lt (IntKind.i64.wrap (v1961+65536)) fun v1963=>
rq (ile (0:Int) x.2.2.2.2.2.1&&ilt x.2.2.2.2.2.1 32)<|
lt (y.2.2.2.1.set x.2.2.2.2.2.1.toNat v1963) fun (v1964:(List Int))=>
lt (IntKind.i64.wrap (x.2.2.2.2.2.1+1)) fun v1965=>
kn ((),(),(),1,(),v1965,()) (y.1,y.2.1,y.2.2.1,v1964,())
else
rq (ile (0:Int) x.2.2.2.2.2.1&&ilt x.2.2.2.2.2.1 32)<|
lt (y.2.2.2.1.set x.2.2.2.2.2.1.toNat v1961) fun (v1966:(List Int))=>
lt (IntKind.i64.wrap (x.2.2.2.2.2.1+1)) fun v1967=>
kn ((),(),(),0,(),v1967,()) (y.1,y.2.1,y.2.2.1,v1966,())
else
ke 0 ((),(),(),x.2.2.2.1,(),x.2.2.2.2.2.1,()) (y.1,y.2.1,y.2.2.1,y.2.2.2.1,())
noncomputable def fu0 (x:X0) (y:Y0):Nat:=((32:Int) - x.2.2.2.2.2.1).toNat+1
noncomputable def l0 (x:X0) (y:Y0):Bool×Nat×X0×Y0×U0×V0:=rounds (fun rq kn ke kr x y=>g0 rq kn ke kr x y) () () (fu0 x y) x y
noncomputable def g {Z:Type} (rq:Bool→Z→Z) (rt:X→Z) (a:(List Int)) (b:(List Int)):Z:=
lt (List.replicate 32 0) fun (v1891:(List Int))=>
lt (List.replicate 32 0) fun (v1892:(List Int))=>
lt (List.replicate 32 0) fun (v1893:(List Int))=>
lt (dG.l0 ((),(),(),0,(),0,()) (a,b,v1891,v1892,())) fun w1968=>
rq w1968.1<|
rt w1968.2.2.2.1.2.2.2.1
noncomputable def r (a:(List Int)) (b:(List Int)):Bool×X:=g chk (fun x=>(true,x)) a b
noncomputable def D:aP:=Dof (P:=Tryz.prog) []
noncomputable def tab:List (Nat×LE Res):= [(5,.typed (fH 31 sh0 bx0 aW aM aN (bf [1] (rounds (fun rq kn ke kr x y=>g0 rq kn ke kr x y) () ()) fu0)))]
set_option maxRecDepth 100000 in
theorem run (a:(List Int)) (b:(List Int)):aQ E0 [true] D (aJ E0 D tab 9) Tryz.f100 (codeOf Tryz.f100) [.val ⟨.arr 32 (.int .i64),a⟩,.val ⟨.arr 32 (.int .i64),b⟩] []=g (fun c z=>req c z) (fun x=>some (res x)) a b:=by kernel_rfl
theorem rel (a:(List Int)) (b:(List Int)):J (fun w z=>z=some (res w)) (g chk (fun x=>(true,x)) a b) (g (fun c z=>req c z) (fun x=>some (res x)) a b):=by
 unfold g
 with_reducible repeat (first|(apply J.lt; intro _)|apply J.rq|apply J.bif|exact J.rt rfl)
set_option maxRecDepth 100000 in
theorem bG (x:ShX sh0) (y:BxX bx0) (kn:ShX sh0→BxX bx0→Option Res) (ke:Nat→ShX sh0→BxX bx0→Option Res) (kr:ShX aM→BxX aN→Option Res):d9 E0 D (aJ E0 D tab 8) (aD (codeOf Tryz.f100) 0) (inj 31 sh0 bx0 x y) (dN sh0 bx0 aW aM aN bC kn ke kr)=g0 (fun c z=>req c z) kn ke kr x y:=by kernel_rfl
theorem cB:Nonempty (Told E0 D tab Tryz.f100.ntmps (aD (codeOf Tryz.f100) 0) 31 sh0 bx0 aW aM aN (bf [1] (rounds (fun rq kn ke kr x y=>g0 rq kn ke kr x y) () ()) fu0)):=
 dh (sh:=sh0) (bx:=bx0) (ord:=aW) (shR:=aM) (bxR:=aN) bC 8 (by kernel_rfl) (by kernel_rfl) (by kernel_rfl) [1] fu0 () () (fun rq kn ke kr x y=>g0 rq kn ke kr x y) (fun rq kn ke kr x y=>g0 rq kn ke kr x y) (bG) (by
  intro φ kn1 kn2 ke1 ke2 kr1 kr2 h1 h2 h3 x y
  simp only [g0]
  with_reducible repeat (first|(apply J.lt; intro _)|apply J.rq|apply J.bif|exact h1 _ _|exact h2 _ (by decide) _ _|exact h3 (by decide) _ _))
theorem cK:fQ E0 D tab Tryz.f100.ntmps (codeOf Tryz.f100):=bY (bs:= [aD (codeOf Tryz.f100) 0]) (by kernel_rfl) (aK (cZ (by kernel_rfl) (cB)) bn)
theorem ok:dD Tryz.f100=true:=by kernel_rfl
abbrev aS:List AS:= [.one (.val (.arr 32 (.int .i64))),.one (.val (.arr 32 (.int .i64)))]
abbrev bS:List Ty:= []
noncomputable def F (x:ASs aS) (y:Bs bS):Brn Res:=brn (r x.1 x.2.1)
theorem good (x:ASs aS) (y:Bs bS) (h:(F x y).res.1=true):Good Tryz.prog 100 (ASs.mk aS x) (Bs.mk bS y) (F x y).res.2:=
 aF hE0 (aA _) Tryz.func100 ok cK aj (run x.1 x.2.1) (rel x.1 x.2.1) h
noncomputable def ent:Ent Tryz.prog:=⟨100,shF aS bS F,aB good⟩
end dG
namespace aY
abbrev X:Type:=(List Int)×(List Int)
noncomputable def res (x:(List Int)×(List Int)):Res:=⟨[.val ⟨.arr 32 (.int .i64),x.1⟩,.val ⟨.arr 32 (.int .i64),x.2⟩],[],[]⟩
noncomputable def brn (w:Bool×X):Brn Res:= .one w.1 (res w.2)
theorem aj (w:Bool×X):(brn w).res=(w.1,res w.2):=rfl
abbrev sh0:List (Nat×Sh):= [(2,.pb 500000 (.arr 32 (.int .i64)) []),(3,.pb 500001 (.arr 32 (.int .i64)) []),(4,.pb 500002 (.arr 32 (.int .i64)) []),(5,.pb 500003 (.arr 32 (.int .i64)) []),(6,.pb 500004 (.arr 32 (.int .i64)) []),(7,.pb 500005 (.arr 32 (.int .i64)) []),(8,.p (.int .i64))]
abbrev bx0:List (Nat×Ty):= [(500000,.arr 32 (.int .i64)),(500001,.arr 32 (.int .i64)),(500002,.arr 32 (.int .i64)),(500003,.arr 32 (.int .i64)),(500004,.arr 32 (.int .i64)),(500005,.arr 32 (.int .i64))]
abbrev aW:List (Nat×Ty):= [(500000,.arr 32 (.int .i64)),(500001,.arr 32 (.int .i64)),(500002,.arr 32 (.int .i64)),(500003,.arr 32 (.int .i64)),(500004,.arr 32 (.int .i64)),(500005,.arr 32 (.int .i64))]
abbrev aM:List (Nat×Sh):= []
abbrev aN:List (Nat×Ty):= []
abbrev bC:List (Nat×Ty):= []
abbrev X0:Type:=Unit×Unit×Unit×Unit×Unit×Unit×Int×Unit
abbrev Y0:Type:=(List Int)×(List Int)×(List Int)×(List Int)×(List Int)×(List Int)×Unit
abbrev U0:Type:=Unit
abbrev V0:Type:=Unit
noncomputable def g0 {Z:Type} (rq:Bool→Z→Z) (kn:X0→Y0→Z) (ke:Nat→X0→Y0→Z) (kr:U0→V0→Z) (x:X0) (y:Y0):Z:=
lt (ile 0 x.2.2.2.2.2.2.1) fun v2053=>
bif v2053 then
lt (IntKind.i64.wrap (x.2.2.2.2.2.2.1.tdiv 16)) fun v2054=>
rq (ile (0:Int) v2054&&ilt v2054 32)<|
lt (y.1.getD v2054.toNat 0) fun (v2055:Int)=>
lt (x.2.2.2.2.2.2.1.tmod 16) fun (v2056:Int)=>
lt (v2055.fdiv (2^(min v2056.toNat 64))) fun (v2057:Int)=>
rq (!ilt v2056 0)<|
lt (eB .i64 (· &&& ·) v2057 (1:Int)) fun v2058=>
lt (dm.r y.2.2.2.2.2.1 v2058) fun w2059=>
rq w2059.1<|
lt (dK.r w2059.2 y.2.1) fun w2060=>
rq w2060.1<|
lt (!w2060.2) fun (v2061:Bool)=>
bif v2061 then
lt (dG.r w2059.2 y.2.1) fun w2062=>
rq w2062.1<|
lt (IntKind.i64.wrap (x.2.2.2.2.2.2.1.tdiv 16)) fun v2063=>
lt (IntKind.i64.wrap (x.2.2.2.2.2.2.1.tdiv 16)) fun v2064=>
rq (ile (0:Int) v2064&&ilt v2064 32)<|
lt (y.2.2.2.2.1.getD v2064.toNat 0) fun (v2065:Int)=>
lt (x.2.2.2.2.2.2.1.tmod 16) fun (v2066:Int)=>
lt (IntKind.i64.wrap ((1:Int)*2^(min v2066.toNat 64))) fun v2067=>
rq (!ilt v2066 0)<|
lt (eB .i64 (· ||| ·) v2065 v2067) fun v2068=>
rq (ile (0:Int) v2063&&ilt v2063 32)<|
lt (y.2.2.2.2.1.set v2063.toNat v2068) fun (v2069:(List Int))=>
lt (IntKind.i64.wrap (x.2.2.2.2.2.2.1 - 1)) fun v2070=>
kn ((),(),(),(),(),(),v2070,()) (y.1,y.2.1,y.2.2.1,y.2.2.2.1,v2069,w2062.2,())
else
lt (IntKind.i64.wrap (x.2.2.2.2.2.2.1 - 1)) fun v2071=>
kn ((),(),(),(),(),(),v2071,()) (y.1,y.2.1,y.2.2.1,y.2.2.2.1,y.2.2.2.2.1,w2059.2,())
else
ke 0 ((),(),(),(),(),(),x.2.2.2.2.2.2.1,()) (y.1,y.2.1,y.2.2.1,y.2.2.2.1,y.2.2.2.2.1,y.2.2.2.2.2.1,())
noncomputable def fu0 (x:X0) (y:Y0):Nat:=(x.2.2.2.2.2.2.1 - (0:Int)+1).toNat+1
noncomputable def l0 (x:X0) (y:Y0):Bool×Nat×X0×Y0×U0×V0:=rounds (fun rq kn ke kr x y=>g0 rq kn ke kr x y) () () (fu0 x y) x y
noncomputable def g {Z:Type} (rq:Bool→Z→Z) (rt:X→Z) (a:(List Int)) (m:(List Int)):Z:=
lt (List.replicate 32 0) fun (v1750:(List Int))=>
lt (List.replicate 32 0) fun (v1751:(List Int))=>
lt (List.replicate 32 0) fun (v1752:(List Int))=>
lt (List.replicate 32 0) fun (v1753:(List Int))=>
lt (List.replicate 32 0) fun (v1754:(List Int))=>
lt (List.replicate 32 0) fun (v1755:(List Int))=>
lt (aY.l0 ((),(),(),(),(),(),511,()) (a,m,v1750,v1751,v1752,v1753,())) fun w2072=>
rq w2072.1<|
rt (w2072.2.2.2.1.2.2.2.2.1,w2072.2.2.2.1.2.2.2.2.2.1)
noncomputable def r (a:(List Int)) (m:(List Int)):Bool×X:=g chk (fun x=>(true,x)) a m
noncomputable def D:aP:=Dof (P:=Tryz.prog) [dm.ent,dK.ent,dG.ent]
noncomputable def tab:List (Nat×LE Res):= [(4,.typed (fH 45 sh0 bx0 aW aM aN (bf [1] (rounds (fun rq kn ke kr x y=>g0 rq kn ke kr x y) () ()) fu0)))]
set_option maxRecDepth 100000 in
theorem run (a:(List Int)) (m:(List Int)):aQ E0 [true,true] D (aJ E0 D tab 9) Tryz.f69 (codeOf Tryz.f69) [.val ⟨.arr 32 (.int .i64),a⟩,.val ⟨.arr 32 (.int .i64),m⟩] []=g (fun c z=>req c z) (fun x=>some (res x)) a m:=by kernel_rfl
theorem rel (a:(List Int)) (m:(List Int)):J (fun w z=>z=some (res w)) (g chk (fun x=>(true,x)) a m) (g (fun c z=>req c z) (fun x=>some (res x)) a m):=by
 unfold g
 with_reducible repeat (first|(apply J.lt; intro _)|apply J.rq|apply J.bif|exact J.rt rfl)
set_option maxRecDepth 100000 in
theorem bG (x:ShX sh0) (y:BxX bx0) (kn:ShX sh0→BxX bx0→Option Res) (ke:Nat→ShX sh0→BxX bx0→Option Res) (kr:ShX aM→BxX aN→Option Res):d9 E0 D (aJ E0 D tab 8) (aD (codeOf Tryz.f69) 0) (inj 45 sh0 bx0 x y) (dN sh0 bx0 aW aM aN bC kn ke kr)=g0 (fun c z=>req c z) kn ke kr x y:=by kernel_rfl
theorem cB:Nonempty (Told E0 D tab Tryz.f69.ntmps (aD (codeOf Tryz.f69) 0) 45 sh0 bx0 aW aM aN (bf [1] (rounds (fun rq kn ke kr x y=>g0 rq kn ke kr x y) () ()) fu0)):=
 dh (sh:=sh0) (bx:=bx0) (ord:=aW) (shR:=aM) (bxR:=aN) bC 8 (by kernel_rfl) (by kernel_rfl) (by kernel_rfl) [1] fu0 () () (fun rq kn ke kr x y=>g0 rq kn ke kr x y) (fun rq kn ke kr x y=>g0 rq kn ke kr x y) (bG) (by
  intro φ kn1 kn2 ke1 ke2 kr1 kr2 h1 h2 h3 x y
  simp only [g0]
  with_reducible repeat (first|(apply J.lt; intro _)|apply J.rq|apply J.bif|exact h1 _ _|exact h2 _ (by decide) _ _|exact h3 (by decide) _ _))
theorem cK:fQ E0 D tab Tryz.f69.ntmps (codeOf Tryz.f69):=bY (bs:= [aD (codeOf Tryz.f69) 0]) (by kernel_rfl) (aK (cZ (by kernel_rfl) (cB)) bn)
theorem ok:dD Tryz.f69=true:=by kernel_rfl
abbrev aS:List AS:= [.one (.val (.arr 32 (.int .i64))),.one (.val (.arr 32 (.int .i64)))]
abbrev bS:List Ty:= []
noncomputable def F (x:ASs aS) (y:Bs bS):Brn Res:=brn (r x.1 x.2.1)
theorem good (x:ASs aS) (y:Bs bS) (h:(F x y).res.1=true):Good Tryz.prog 69 (ASs.mk aS x) (Bs.mk bS y) (F x y).res.2:=
 aF hE0 (aA _) Tryz.func69 ok cK aj (run x.1 x.2.1) (rel x.1 x.2.1) h
noncomputable def ent:Ent Tryz.prog:=⟨69,shF aS bS F,aB good⟩
end aY
end Go.Own
