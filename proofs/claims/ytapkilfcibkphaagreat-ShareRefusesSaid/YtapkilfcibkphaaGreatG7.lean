/- What functions compute, printed by wip/gen/gen2.py. -/
import Derived.Test.YtapkilfcibkphaaGreatG6
set_option linter.unusedVariables false
set_option linter.unusedSimpArgs false
set_option maxRecDepth 100000
noncomputable section
namespace Go.Own
open Go.Proofs Go.Proofs.YtapkilfcibkphaaGreat
namespace aU
abbrev X:Type:=Bool
def res (x:Bool):Res:=⟨[.val ⟨.bool,x⟩],[],[]⟩
def brn (w:Bool×X):Brn Res:= .one w.1 (res w.2)
theorem dI (w:Bool×X):(brn w).res=(w.1,res w.2):=rfl
def g {Z:Type} (rq:Bool→Z→Z) (rt:X→Z):Z:=
lt (bX.ro 0) fun w1165=>
rq w1165.1<|
lt (aT.ro 5) fun w1200=>
rq w1200.1<|
lt (aT.ro 2) fun w1201=>
rq w1201.1<|
lt (di.ro w1165.2.1 [w1200.2,w1201.2] 3) fun w1242=>
rq w1242.1<|
lt (!w1165.2.2.2) fun (v1243:Bool)=>
bif v1243 then
rt false
else
lt (w1242.2.2 != 0) fun (v1244:Bool)=>
bif v1244 then
rt false
else
lt (aT.ro 7) fun w1245=>
rq w1245.1<|
lt (aT.ro 9) fun w1246=>
rq w1246.1<|
lt (aT.ro 11) fun w1247=>
rq w1247.1<|
lt (bM.ro w1242.2.1 [(1,(w1245.2,())),(2,(w1246.2,())),(3,(w1247.2,()))]) fun w1260=>
rq w1260.1<|
lt (!w1260.2) fun (v1261:Bool)=>
bif v1261 then
rt false
else
lt ((w1242.2.1.drop 1).take ((w1242.2.1.length:Int).toNat - 1)) fun (v1262:(List bJ))=>
rq (ile (1:Int) (w1242.2.1.length:Int)&&ile (w1242.2.1.length:Int) (w1242.2.1.length:Int))<|
lt (bf.ro w1165.2.1 1 v1262) fun w1579=>
bif Nat.beq w1579.2.1 0 then
rq w1579.1<|
lt (bf.ro w1165.2.1 0 w1242.2.1) fun w1580=>
bif Nat.beq w1580.2.1 0 then
rq w1580.1<|
lt (aT.ro 5) fun w1581=>
rq w1581.1<|
lt (aT.ro 2) fun w1582=>
rq w1582.1<|
lt (bC.ro [] [w1581.2,w1582.2]) fun w1595=>
rq w1595.1<|
bif w1595.2 then
lt (w1579.2.2.1== 0) fun (v1596:Bool)=>
bif v1596 then
lt (w1580.2.2.1== 4) fun (v1597:Bool)=>
rt v1597
else
rt false
else
rt false
else
rq w1580.1<|
lt (aT.ro 5) fun w1598=>
rq w1598.1<|
lt (aT.ro 2) fun w1599=>
rq w1599.1<|
lt (bC.ro [] [w1598.2,w1599.2]) fun w1600=>
rq w1600.1<|
bif w1600.2 then
lt (w1579.2.2.1== 0) fun (v1601:Bool)=>
bif v1601 then
lt (w1580.2.2.2.2.2.1== 4) fun (v1602:Bool)=>
rt v1602
else
rt false
else
rt false
else
rq w1579.1<|
lt (bf.ro w1165.2.1 0 w1242.2.1) fun w1603=>
bif Nat.beq w1603.2.1 0 then
rq w1603.1<|
lt (aT.ro 5) fun w1604=>
rq w1604.1<|
lt (aT.ro 2) fun w1605=>
rq w1605.1<|
lt (bC.ro ((w1579.2.2.2.2.2.2.2.drop w1579.2.2.2.1).take w1579.2.2.2.2.1) [w1604.2,w1605.2]) fun w1606=>
rq w1606.1<|
bif w1606.2 then
lt (w1579.2.2.2.2.2.1== 0) fun (v1607:Bool)=>
bif v1607 then
lt (w1603.2.2.1== 4) fun (v1608:Bool)=>
rt v1608
else
rt false
else
rt false
else
rq w1603.1<|
lt (aT.ro 5) fun w1609=>
rq w1609.1<|
lt (aT.ro 2) fun w1610=>
rq w1610.1<|
lt (bC.ro ((w1579.2.2.2.2.2.2.2.drop w1579.2.2.2.1).take w1579.2.2.2.2.1) [w1609.2,w1610.2]) fun w1611=>
rq w1611.1<|
bif w1611.2 then
lt (w1579.2.2.2.2.2.1== 0) fun (v1612:Bool)=>
bif v1612 then
lt (w1603.2.2.2.2.2.1== 4) fun (v1613:Bool)=>
rt v1613
else
rt false
else
rt false
def r:Bool×X:=g chk (fun x=>(true,x))
def D:aL:=Dof (P:=Tryz.prog) [bX.rR,aT.rR,di.rR,bM.rR,bf.rR,bC.rR]
def tab:List (Nat×LE Res):= []
theorem run:gX E0 [true] D (iw E0 D tab 9) Tryz.f5 (codeOf Tryz.f5) [] []=g (fun c z=>req c z) (fun x=>some (res x)):=by kernel_rfl
theorem rel:J (fun w z=>z=some (res w)) (g chk (fun x=>(true,x))) (g (fun c z=>req c z) (fun x=>some (res x))):=by
 unfold g
 with_reducible repeat (first|(apply J.lt; intro _)|apply J.rq|apply J.bif|exact J.rt rfl)
theorem ok:ol Tryz.f5=true:=by kernel_rfl
abbrev aS:List AS:= []
abbrev bS:List Ty:= []
def F (_:ASs aS) (_:Bs bS):Brn Res:=brn r
theorem good (x:ASs aS) (y:Bs bS) (h:(F x y).res.1=true):Good Tryz.prog 5 (ASs.mk aS x) (Bs.mk bS y) (F x y).res.2:=
 fI hE0 (aC _) Tryz.func5 ok aJ dI (run) (rel) h
def ent:Ent Tryz.prog:=⟨5,shF aS bS F,bW good⟩
def ro:Bool×X:=Classical.choose (⟨r,rfl⟩:∃ q:Bool×X,q=r)
theorem iF:ro=r:=Classical.choose_spec (⟨r,rfl⟩:∃ q:Bool×X,q=r)
def FO (_:ASs aS) (_:Bs bS):Brn Res:=brn ro
theorem mQ:FO=F:=by unfold FO F; rw [iF]
def rR:Ent Tryz.prog:=⟨5,shF aS bS FO,bW (by rw [mQ]; exact good)⟩
end aU
namespace aD
def E1:Env:=E0.pooled [(40,999001)] [(999001,.arr 4 (.int .u64))]
theorem hE1:dK Tryz.prog E1:=⟨hE0.ty,hE0.bytes,hE0.mixed,hE0.depth,hE0.lev,hE0.uns,hE0.up⟩
abbrev X:Type:=(List (List (List Int)))×Int
def res (x:(List (List (List Int)))×Int):Res:=⟨[.val ⟨.sl (.sl (.arr 4 (.int .u64))),x.1⟩,.val ⟨.int .i64,x.2⟩],[],[]⟩
abbrev sh2:List (Nat×Sh):= [(0,.p (.ref au)),(1,.p (.sl (.int .i64))),(4,.nil),(5,.p (.int .i64)),(6,.va 502000 (.arr 4 (.int .u64))),(9,.va 502001 (.sl (.arr 4 (.int .u64)))),(48,.p (.int .i64)),(49,.p (.int .i64)),(76,.va 502002 (.arr 4 (.int .u64))),(77,.p (.int .i64)),(78,.p (.int .i64))]
abbrev bx2:List (Nat×Ty):= [(502000,.dyn (.arr 4 (.int .u64))),(502001,.dyn (.rid 999001 (.arr 4 (.int .u64)))),(502002,.dyn (.arr 4 (.int .u64))),(999001,.pool (.arr 4 (.int .u64)))]
abbrev Qz:List (Nat×Ty):= [(502000,.dyn (.arr 4 (.int .u64))),(502001,.dyn (.rid 999001 (.arr 4 (.int .u64)))),(502002,.dyn (.arr 4 (.int .u64))),(999001,.pool (.arr 4 (.int .u64)))]
abbrev Qp:List (Nat×Sh):= []
abbrev QO:List (Nat×Ty):= []
abbrev Rs:List (Nat×Ty):= []
abbrev X2:Type:=(Option ai)×(List Int)×Unit×Int×Unit×Unit×Int×Int×Unit×Int×Int×Unit
abbrev Y2:Type:=(Bool×List (List Int))×(Bool×List Nat)×(Bool×List (List Int))×(List (Nat×List (List Int)))×Unit
abbrev U2:Type:=Unit
abbrev V2:Type:=Unit
def g2 {Z:Type} (rq:Bool→Z→Z) (kn:X2→Y2→Z) (ke:Nat→X2→Y2→Z) (kr:U2→V2→Z) (x:X2) (y:Y2):Z:=
lt (ilt x.2.2.2.2.2.2.2.2.2.2.1 x.2.2.2.2.2.2.2.2.2.1) fun v1685=>
bif v1685 then
rq (ile (0:Int) x.2.2.2.2.2.2.2.2.2.2.1&&ilt x.2.2.2.2.2.2.2.2.2.2.1 (y.2.2.1.2.length:Int))<|
lt (y.2.2.1.2.getD x.2.2.2.2.2.2.2.2.2.2.1.toNat [0,0,0,0]) fun (v1686:(List Int))=>
rq (ile (0:Int) x.2.2.2.2.2.2.2.2.2.2.1&&ilt x.2.2.2.2.2.2.2.2.2.2.1 (y.2.1.2.length:Int))<|
lt (y.2.1.2.getD x.2.2.2.2.2.2.2.2.2.2.1.toNat 0) fun (v1687:Nat)=>
lt ((y.2.2.2.1.set v1687 ((bif Nat.beq (y.2.2.2.1.getD v1687 (0,[])).1 3 then 3 else 2),(y.2.2.2.1.getD v1687 (0,[])).2))++ [(1,((y.2.2.2.1.getD v1687 (0,[])).2++ [v1686]))]) fun (v1688:(List (Nat×List (List Int))))=>
rq ((!Nat.beq (y.2.2.2.1.getD v1687 (0,[])).1 2)&&nle ((2*((y.2.2.2.1.getD v1687 (0,[])).2.length+1)+512)*32) 70368744177664)<|
rq (ile (0:Int) x.2.2.2.2.2.2.2.2.2.2.1&&ilt x.2.2.2.2.2.2.2.2.2.2.1 (y.2.1.2.length:Int))<|
lt (y.2.1.2.set x.2.2.2.2.2.2.2.2.2.2.1.toNat y.2.2.2.1.length) fun (v1689:(List Nat))=>
lt (IntKind.i64.wrap (x.2.2.2.2.2.2.2.2.2.2.1+1)) fun v1690=>
kn (x.1,x.2.1,(),x.2.2.2.1,(),(),x.2.2.2.2.2.2.1,x.2.2.2.2.2.2.2.1,(),x.2.2.2.2.2.2.2.2.2.1,v1690,()) (y.1,(y.2.1.1,v1689),y.2.2.1,v1688,())
else
ke 4 (x.1,x.2.1,(),x.2.2.2.1,(),(),x.2.2.2.2.2.2.1,x.2.2.2.2.2.2.2.1,(),x.2.2.2.2.2.2.2.2.2.1,x.2.2.2.2.2.2.2.2.2.2.1,()) (y.1,y.2.1,y.2.2.1,y.2.2.2.1,())
def fu2 (x:X2) (y:Y2):Nat:=(x.2.2.2.2.2.2.2.2.2.1 - x.2.2.2.2.2.2.2.2.2.2.1).toNat+1
def l2 (x:X2) (y:Y2):Bool×Nat×X2×Y2×U2×V2:=rounds (fun rq kn ke kr x y=>g2 rq kn ke kr x y) () () (fu2 x y) x y
abbrev sh1:List (Nat×Sh):= [(0,.p (.ref au)),(1,.p (.sl (.int .i64))),(4,.nil),(5,.p (.int .i64)),(6,.va 501000 (.arr 4 (.int .u64))),(9,.va 501001 (.sl (.arr 4 (.int .u64)))),(48,.p (.int .i64)),(49,.p (.int .i64))]
abbrev bx1:List (Nat×Ty):= [(501000,.dyn (.arr 4 (.int .u64))),(501001,.dyn (.rid 999001 (.arr 4 (.int .u64)))),(999001,.pool (.arr 4 (.int .u64)))]
abbrev lS:List (Nat×Ty):= [(501000,.dyn (.arr 4 (.int .u64))),(501001,.dyn (.rid 999001 (.arr 4 (.int .u64)))),(999001,.pool (.arr 4 (.int .u64)))]
abbrev lK:List (Nat×Sh):= [(4,.nil),(5,.p (.int .i64))]
abbrev lZ:List (Nat×Ty):= [(999001,.pool (.arr 4 (.int .u64)))]
abbrev pU:List (Nat×Ty):= [(999001,.pool (.arr 4 (.int .u64)))]
abbrev X1:Type:=(Option ai)×(List Int)×Unit×Int×Unit×Unit×Int×Int×Unit
abbrev Y1:Type:=(Bool×List (List Int))×(Bool×List Nat)×(List (Nat×List (List Int)))×Unit
abbrev U1:Type:=Unit×Int×Unit
abbrev V1:Type:=(List (Nat×List (List Int)))×Unit
def g1 {Z:Type} (rq:Bool→Z→Z) (kn:X1→Y1→Z) (ke:Nat→X1→Y1→Z) (kr:U1→V1→Z) (x:X1) (y:Y1):Z:=
lt (ilt x.2.2.2.2.2.2.2.1 x.2.2.2.2.2.2.1) fun v1672=>
bif v1672 then
lt (x.2.1.length:Int) fun (v1673:Int)=>
lt (List.replicate v1673.toNat [0,0,0,0]) fun (v1674:(List (List Int)))=>
rq ((ile (0:Int) v1673&&ile v1673 v1673)&&ile (v1673*((32:Nat):Int)) 70368744177664)<|
lt (dm.r 1) fun w1675=>
rq w1675.1<|
rq (ile (0:Int) x.2.2.2.2.2.2.2.1&&ilt x.2.2.2.2.2.2.2.1 (v1674.length:Int))<|
lt (v1674.set x.2.2.2.2.2.2.2.1.toNat w1675.2) fun (v1676:(List (List Int)))=>
lt (eP.r x.1 y.1.2 v1676) fun w1677=>
bif Nat.beq w1677.2.1 0 then
rq w1677.1<|
lt (w1677.2.2.1 != 0) fun (v1678:Bool)=>
bif v1678 then
kr ((),w1677.2.2.1,()) (y.2.2.1,())
else
lt (x.2.1.length:Int) fun (v1679:Int)=>
lt (IntKind.i64.wrap (v1679 - 0)) fun v1680=>
lt ((List.replicate v1680.toNat ([0,0,0,0]:(List Int))).isEmpty) fun (v1681:Bool)=>
lt (List.replicate v1680.toNat ([0,0,0,0]:(List Int))) fun (v1682:(List (List Int)))=>
rq (ile (0:Int) v1680&&nle ((2*(0+(List.replicate v1680.toNat ([0,0,0,0]:(List Int))).length)+512)*32) 70368744177664)<|
lt (v1682.length:Int) fun (v1683:Int)=>
lt (aD.l2 (x.1,x.2.1,(),x.2.2.2.1,(),(),x.2.2.2.2.2.2.1,x.2.2.2.2.2.2.2.1,(),v1683,0,()) (y.1,y.2.1,(v1681,v1682),y.2.2.1,())) fun w1691=>
rq w1691.1<|
lt (IntKind.i64.wrap (w1691.2.2.1.2.2.2.2.2.2.2.1+1)) fun v1692=>
kn (w1691.2.2.1.1,w1691.2.2.1.2.1,(),w1691.2.2.1.2.2.2.1,(),(),w1691.2.2.1.2.2.2.2.2.2.1,v1692,()) (w1691.2.2.2.1.1,w1691.2.2.2.1.2.1,w1691.2.2.2.1.2.2.2.1,())
else
rq w1677.1<|
lt (w1677.2.2.2.2.2.1 != 0) fun (v1693:Bool)=>
bif v1693 then
kr ((),w1677.2.2.2.2.2.1,()) (y.2.2.1,())
else
lt (x.2.1.length:Int) fun (v1694:Int)=>
lt ((w1677.2.2.2.2.1:Nat):Int) fun (v1695:Int)=>
lt (IntKind.i64.wrap (v1694 - v1695)) fun v1696=>
lt ((w1677.2.2.2.2.2.2.1&&neq w1677.2.2.2.2.1 0)&&(List.replicate v1696.toNat ([0,0,0,0]:(List Int))).isEmpty) fun (v1697:Bool)=>
lt (((w1677.2.2.2.2.2.2.2.drop w1677.2.2.2.1).take w1677.2.2.2.2.1)++(List.replicate v1696.toNat ([0,0,0,0]:(List Int)))) fun (v1698:(List (List Int)))=>
rq (ile (0:Int) v1696&&nle ((2*(((w1677.2.2.2.2.2.2.2.drop w1677.2.2.2.1).take w1677.2.2.2.2.1).length+(List.replicate v1696.toNat ([0,0,0,0]:(List Int))).length)+512)*32) 70368744177664)<|
lt (v1698.length:Int) fun (v1699:Int)=>
lt (aD.l2 (x.1,x.2.1,(),x.2.2.2.1,(),(),x.2.2.2.2.2.2.1,x.2.2.2.2.2.2.2.1,(),v1699,0,()) (y.1,y.2.1,(v1697,v1698),y.2.2.1,())) fun w1700=>
rq w1700.1<|
lt (IntKind.i64.wrap (w1700.2.2.1.2.2.2.2.2.2.2.1+1)) fun v1701=>
kn (w1700.2.2.1.1,w1700.2.2.1.2.1,(),w1700.2.2.1.2.2.2.1,(),(),w1700.2.2.1.2.2.2.2.2.2.1,v1701,()) (w1700.2.2.2.1.1,w1700.2.2.2.1.2.1,w1700.2.2.2.1.2.2.2.1,())
else
ke 2 (x.1,x.2.1,(),x.2.2.2.1,(),(),x.2.2.2.2.2.2.1,x.2.2.2.2.2.2.2.1,()) (y.1,y.2.1,y.2.2.1,())
def fu1 (x:X1) (y:Y1):Nat:=(x.2.2.2.2.2.2.1 - x.2.2.2.2.2.2.2.1).toNat+1
def l1 (x:X1) (y:Y1):Bool×Nat×X1×Y1×U1×V1:=rounds (fun rq kn ke kr x y=>g1 rq kn ke kr x y) ((),0,()) ([],()) (fu1 x y) x y
abbrev sh0:List (Nat×Sh):= [(0,.p (.ref au)),(1,.p (.sl (.int .i64))),(4,.nil),(5,.p (.int .i64)),(6,.va 500000 (.arr 4 (.int .u64))),(32,.p (.sl (.int .i64))),(33,.p (.int .i64)),(34,.p (.int .i64))]
abbrev bx0:List (Nat×Ty):= [(500000,.dyn (.arr 4 (.int .u64))),(999001,.pool (.arr 4 (.int .u64)))]
abbrev bH:List (Nat×Ty):= [(500000,.dyn (.arr 4 (.int .u64))),(999001,.pool (.arr 4 (.int .u64)))]
abbrev bG:List (Nat×Sh):= []
abbrev bI:List (Nat×Ty):= []
abbrev dH:List (Nat×Ty):= []
abbrev X0:Type:=(Option ai)×(List Int)×Unit×Int×Unit×(List Int)×Int×Int×Unit
abbrev Y0:Type:=(Bool×List (List Int))×(List (Nat×List (List Int)))×Unit
abbrev U0:Type:=Unit
abbrev V0:Type:=Unit
def g0 {Z:Type} (rq:Bool→Z→Z) (kn:X0→Y0→Z) (ke:Nat→X0→Y0→Z) (kr:U0→V0→Z) (x:X0) (y:Y0):Z:=
lt (ilt x.2.2.2.2.2.2.2.1 x.2.2.2.2.2.2.1) fun v1660=>
bif v1660 then
lt (x.2.2.2.2.2.1.getD x.2.2.2.2.2.2.2.1.toNat 0) fun (v1661:Int)=>
rq (ile (0:Int) x.2.2.2.2.2.2.2.1&&ilt x.2.2.2.2.2.2.2.1 (x.2.2.2.2.2.1.length:Int))<|
lt (dm.r v1661) fun w1662=>
rq w1662.1<|
lt (y.1.1&&false) fun (v1663:Bool)=>
lt (y.1.2++ [w1662.2]) fun (v1664:(List (List Int)))=>
rq (nle ((2*(y.1.2.length+1)+512)*32) 70368744177664)<|
lt (IntKind.i64.wrap (x.2.2.2.2.2.2.2.1+1)) fun v1665=>
kn (x.1,x.2.1,(),x.2.2.2.1,(),x.2.2.2.2.2.1,x.2.2.2.2.2.2.1,v1665,()) ((v1663,v1664),y.2.1,())
else
ke 0 (x.1,x.2.1,(),x.2.2.2.1,(),x.2.2.2.2.2.1,x.2.2.2.2.2.2.1,x.2.2.2.2.2.2.2.1,()) (y.1,y.2.1,())
def fu0 (x:X0) (y:Y0):Nat:=(x.2.2.2.2.2.2.1 - x.2.2.2.2.2.2.2.1).toNat+1
def l0 (x:X0) (y:Y0):Bool×Nat×X0×Y0×U0×V0:=rounds (fun rq kn ke kr x y=>g0 rq kn ke kr x y) () () (fu0 x y) x y
def g {Z:Type} (rq:Bool→Z→Z) (rt:X→Z) (gx:(Option ai)) (xs:(List Int)):Z:=
lt (bn.r gx) fun w1654=>
rq w1654.1<|
bif w1654.2.isNone then
rt ([],1)
else
lt (xs.length:Int) fun (v1655:Int)=>
lt (ilt 8 v1655) fun v1656=>
bif v1656 then
rt ([],1)
else
lt (fe.r xs 0) fun w1657=>
rq w1657.1<|
bif w1657.2 then
rt ([],1)
else
lt (gG.r xs) fun w1658=>
rq w1658.1<|
bif w1658.2 then
rt ([],1)
else
lt (xs.length:Int) fun (v1659:Int)=>
lt (aD.l0 (gx,xs,(),0,(),xs,v1659,0,()) ((true,[]),[],())) fun w1666=>
rq w1666.1<|
lt (w1666.2.2.1.2.1.length:Int) fun (v1667:Int)=>
lt (w1666.2.2.2.1.2.1++ [(3,[])]) fun (v1668:(List (Nat×List (List Int))))=>
lt (List.replicate v1667.toNat w1666.2.2.2.1.2.1.length) fun (v1669:(List Nat))=>
rq ((ile (0:Int) v1667&&ile v1667 v1667)&&ile (v1667*((24:Nat):Int)) 70368744177664)<|
lt (w1666.2.2.1.2.1.length:Int) fun (v1670:Int)=>
lt (aD.l1 (w1666.2.2.1.1,w1666.2.2.1.2.1,(),w1666.2.2.1.2.2.2.1,(),(),v1670,0,()) (w1666.2.2.2.1.1,(false,v1669),v1668,())) fun w1702=>
rq w1702.1<|
bif Nat.beq w1702.2.1 0 then
rt ([],w1702.2.2.2.2.1.2.1)
else
rt ((w1702.2.2.2.1.2.1.2.map fun r_=>(w1702.2.2.2.1.2.2.1.getD r_ (0,[])).2),0)
def r (gx:(Option ai)) (xs:(List Int)):Bool×X:=g chk (fun x=>(true,x)) gx xs
def D:aL:=Dof (P:=Tryz.prog) [bn.ent,fe.ent,gG.ent,dm.ent,eP.ent]
abbrev lf2:=dO (R:=Res) [5] (rounds (fun rq kn ke kr x y=>g2 rq kn ke kr x y) () ()) fu2
abbrev lf1:=dO (R:=Res) [0,3] (rounds (fun rq kn ke kr x y=>g1 rq kn ke kr x y) ((),0,()) ([],())) fu1
abbrev lf0:=dO (R:=Res) [1] (rounds (fun rq kn ke kr x y=>g0 rq kn ke kr x y) () ()) fu0
def tab:List (Nat×LE Res):= [(21,.typed (eY 96 sh2 bx2 Qz Qp QO (lf2))),(12,.typed (eY 96 sh1 bx1 lS lK lZ (lf1))),(6,.typed (eY 96 sh0 bx0 bH bG bI (lf0)))]
theorem Ro:Nonempty (Told E1 D tab Tryz.f10.ntmps (aI (codeOf Tryz.f10) 2) 96 sh2 bx2 Qz Qp QO lf2):=fG (sh:=sh2) (bx:=bx2) (ord:=Qz) (shR:=Qp) (bxR:=QO) Rs (by kernel_rfl) (by kernel_rfl) (by kernel_rfl) [5] _ _ _ @g2 (fun _ _ _ _ _=>by kernel_rfl) (by
  intro _ _ _ _ _ _ _ h i k x y
  simp only [g2]
  with_reducible repeat (first|(apply J.lt; intro _)|apply J.rq|apply J.bif|exact h _ _|exact i _ (by decide) _ _|exact k (by decide) _ _))
theorem pG:Nonempty (Told E1 D tab Tryz.f10.ntmps (aI (codeOf Tryz.f10) 1) 96 sh1 bx1 lS lK lZ lf1):=fG (sh:=sh1) (bx:=bx1) (ord:=lS) (shR:=lK) (bxR:=lZ) pU (by kernel_rfl) (by kernel_rfl) (by kernel_rfl) [0,3] _ _ _ @g1 (fun _ _ _ _ _=>by kernel_rfl) (by
  intro _ _ _ _ _ _ _ h i k x y
  simp only [g1]
  with_reducible repeat (first|(apply J.lt; intro _)|apply J.rq|apply J.bif|exact h _ _|exact i _ (by decide) _ _|exact k (by decide) _ _))
theorem dF:Nonempty (Told E1 D tab Tryz.f10.ntmps (aI (codeOf Tryz.f10) 0) 96 sh0 bx0 bH bG bI lf0):=fG (sh:=sh0) (bx:=bx0) (ord:=bH) (shR:=bG) (bxR:=bI) dH (by kernel_rfl) (by kernel_rfl) (by kernel_rfl) [1] _ _ _ @g0 (fun _ _ _ _ _=>by kernel_rfl) (by
  intro _ _ _ _ _ _ _ h i k x y
  simp only [g0]
  with_reducible repeat (first|(apply J.lt; intro _)|apply J.rq|apply J.bif|exact h _ _|exact i _ (by decide) _ _|exact k (by decide) _ _))
theorem dG:fU E1 D tab Tryz.f10.ntmps (codeOf Tryz.f10):=dw (bs:= [aI (codeOf Tryz.f10) 0,aI (codeOf Tryz.f10) 1,aI (codeOf Tryz.f10) 2]) (by kernel_rfl) (aH (bY (by kernel_rfl) (dF)) (aH (bY (by kernel_rfl) (pG)) (aH (bY (by kernel_rfl) (Ro)) bA)))
abbrev aS:List AS:= [.one (.val (.ref au)),.one (.val (.sl (.int .i64)))]
abbrev bS:List Ty:= []
def ent:Ent Tryz.prog:=bU (D:=D) (tab:=tab) hE1 (aC _) [true,true] Tryz.func10 (by kernel_rfl) dG aS bS res (fun x y=>r x.1 x.2.1) (fun x y=>g (fun c z=>req c z) (fun x=>some (res x)) x.1 x.2.1) (fun _ _=>by kernel_rfl) (by
 intro x y
 show J _ (g chk (fun x=>(true,x)) x.1 x.2.1) (g (fun c z=>req c z) (fun x=>some (res x)) x.1 x.2.1)
 unfold g
 with_reducible repeat (first|(apply J.lt; intro _)|apply J.rq|apply J.bif|exact J.rt rfl))
end aD
namespace ak
abbrev X:Type:=Bool
def res (x:Bool):Res:=⟨[.val ⟨.bool,x⟩],[],[]⟩
def brn (w:Bool×X):Brn Res:= .one w.1 (res w.2)
theorem dI (w:Bool×X):(brn w).res=(w.1,res w.2):=rfl
abbrev sh1:List (Nat×Sh):= [(0,.p (.sl (.int .i64))),(1,.p (.sl (.arr 4 (.int .u64)))),(4,.p .bool),(5,.p .bool),(6,.p (.int .i64)),(7,.p (.int .i64))]
abbrev bx1:List (Nat×Ty):= []
abbrev lS:List (Nat×Ty):= []
abbrev lK:List (Nat×Sh):= []
abbrev lZ:List (Nat×Ty):= []
abbrev pU:List (Nat×Ty):= []
abbrev X1:Type:=(List Int)×(List (List Int))×Bool×Bool×Int×Int×Unit
abbrev Y1:Type:=Unit
abbrev U1:Type:=Unit
abbrev V1:Type:=Unit
def g1 {Z:Type} (rq:Bool→Z→Z) (kn:X1→Y1→Z) (ke:Nat→X1→Y1→Z) (kr:U1→V1→Z) (x:X1) (y:Y1):Z:=
lt (ilt x.2.2.2.2.2.1 x.2.2.2.2.1) fun v1629=>
bif v1629 then
bif x.2.2.2.1 then
lt (x.1.getD x.2.2.2.2.2.1.toNat 0) fun (v1630:Int)=>
rq (ile (0:Int) x.2.2.2.2.2.1&&ilt x.2.2.2.2.2.1 (x.1.length:Int))<|
lt (x.1.getD x.2.2.2.2.1.toNat 0) fun (v1631:Int)=>
rq (ile (0:Int) x.2.2.2.2.1&&ilt x.2.2.2.2.1 (x.1.length:Int))<|
lt (v1630 != v1631) fun (v1632:Bool)=>
lt (IntKind.i64.wrap (x.2.2.2.2.2.1+1)) fun v1633=>
kn (x.1,x.2.1,x.2.2.1,v1632,x.2.2.2.2.1,v1633,()) ()
else
lt (IntKind.i64.wrap (x.2.2.2.2.2.1+1)) fun v1634=>
kn (x.1,x.2.1,x.2.2.1,false,x.2.2.2.2.1,v1634,()) ()
else
ke 2 (x.1,x.2.1,x.2.2.1,x.2.2.2.1,x.2.2.2.2.1,x.2.2.2.2.2.1,()) ()
def fu1 (x:X1) (y:Y1):Nat:=(x.2.2.2.2.1 - x.2.2.2.2.2.1).toNat+1
def l1 (x:X1) (y:Y1):Bool×Nat×X1×Y1×U1×V1:=rounds (fun rq kn ke kr x y=>g1 rq kn ke kr x y) () () (fu1 x y) x y
abbrev sh0:List (Nat×Sh):= [(0,.p (.sl (.int .i64))),(1,.p (.sl (.arr 4 (.int .u64)))),(4,.p .bool),(5,.p .bool),(6,.p (.int .i64))]
abbrev bx0:List (Nat×Ty):= []
abbrev bH:List (Nat×Ty):= []
abbrev bG:List (Nat×Sh):= []
abbrev bI:List (Nat×Ty):= []
abbrev dH:List (Nat×Ty):= []
abbrev X0:Type:=(List Int)×(List (List Int))×Bool×Bool×Int×Unit
abbrev Y0:Type:=Unit
abbrev U0:Type:=Unit
abbrev V0:Type:=Unit
def g0 {Z:Type} (rq:Bool→Z→Z) (kn:X0→Y0→Z) (ke:Nat→X0→Y0→Z) (kr:U0→V0→Z) (x:X0) (y:Y0):Z:=
lt (x.1.length:Int) fun (v1622:Int)=>
lt (ilt x.2.2.2.2.1 v1622) fun v1623=>
bif v1623 then
bif x.2.2.2.1 then
lt (x.1.getD x.2.2.2.2.1.toNat 0) fun (v1624:Int)=>
rq (ile (0:Int) x.2.2.2.2.1&&ilt x.2.2.2.2.1 (x.1.length:Int))<|
lt (ile 0 v1624) fun v1625=>
bif v1625 then
lt (x.1.getD x.2.2.2.2.1.toNat 0) fun (v1626:Int)=>
rq (ile (0:Int) x.2.2.2.2.1&&ilt x.2.2.2.2.1 (x.1.length:Int))<|
lt (ile v1626 7) fun v1627=>
lt (ak.l1 (x.1,x.2.1,x.2.2.1,v1627,x.2.2.2.2.1,0,()) ()) fun w1635=>
rq w1635.1<|
lt (IntKind.i64.wrap (w1635.2.2.1.2.2.2.2.1+1)) fun v1636=>
kn (w1635.2.2.1.1,w1635.2.2.1.2.1,w1635.2.2.1.2.2.1,w1635.2.2.1.2.2.2.1,v1636,()) ()
else
lt (ak.l1 (x.1,x.2.1,x.2.2.1,false,x.2.2.2.2.1,0,()) ()) fun w1637=>
rq w1637.1<|
lt (IntKind.i64.wrap (w1637.2.2.1.2.2.2.2.1+1)) fun v1638=>
kn (w1637.2.2.1.1,w1637.2.2.1.2.1,w1637.2.2.1.2.2.1,w1637.2.2.1.2.2.2.1,v1638,()) ()
else
lt (ak.l1 (x.1,x.2.1,x.2.2.1,false,x.2.2.2.2.1,0,()) ()) fun w1639=>
rq w1639.1<|
lt (IntKind.i64.wrap (w1639.2.2.1.2.2.2.2.1+1)) fun v1640=>
kn (w1639.2.2.1.1,w1639.2.2.1.2.1,w1639.2.2.1.2.2.1,w1639.2.2.1.2.2.2.1,v1640,()) ()
else
ke 0 (x.1,x.2.1,x.2.2.1,x.2.2.2.1,x.2.2.2.2.1,()) ()
def fu0 (x:X0) (y:Y0):Nat:=((x.1.length:Int) - x.2.2.2.2.1).toNat+1
def l0 (x:X0) (y:Y0):Bool×Nat×X0×Y0×U0×V0:=rounds (fun rq kn ke kr x y=>g0 rq kn ke kr x y) () () (fu0 x y) x y
def g {Z:Type} (rq:Bool→Z→Z) (rt:X→Z) (xs:(List Int)) (f:(List (List Int))):Z:=
lt (xs.length:Int) fun (v1:Int)=>
lt (ilt 10 v1) fun v2=>
bif v2 then
lt aU.ro fun w1614=>
rq w1614.1<|
rt w1614.2
else
lt (f.length:Int) fun (v1615:Int)=>
lt (ilt 8 v1615) fun v1616=>
bif v1616 then
lt aU.ro fun w1617=>
rq w1617.1<|
rt w1617.2
else
lt (xs.length:Int) fun (v1618:Int)=>
lt (ile v1618 8) fun v1619=>
lt (ak.l0 (xs,f,false,v1619,0,()) ()) fun w1641=>
rq w1641.1<|
lt (bX.r 1) fun w1642=>
rq w1642.1<|
lt (aD.r w1642.2.1 w1641.2.2.1.1) fun w1703=>
rq w1703.1<|
lt (!w1642.2.2.2) fun (v1704:Bool)=>
bif v1704 then
rt false
else
lt (w1703.2.2== 0) fun (v1705:Bool)=>
lt (!(v1705== w1641.2.2.1.2.2.2.1)) fun (v1706:Bool)=>
bif v1706 then
rt false
else
lt (w1703.2.2 != 0) fun (v1707:Bool)=>
bif v1707 then
lt (w1703.2.2 != 1) fun (v1708:Bool)=>
bif v1708 then
rt false
else
lt (w1703.2.1.length:Int) fun (v1709:Int)=>
lt (ilt 0 v1709) fun v1710=>
bif v1710 then
rt false
else
lt (di.r none w1641.2.2.1.2.1 3) fun w1771=>
rq w1771.1<|
lt (bf.r none 0 [(1,([0,0,0,0],()))]) fun w1772=>
bif Nat.beq w1772.2.1 0 then
rq w1772.1<|
lt (aD.r none []) fun w1773=>
rq w1773.1<|
lt (w1771.2.1.length:Int) fun (v1774:Int)=>
lt (ilt 0 v1774) fun v1775=>
bif v1775 then
rt false
else
lt (w1771.2.2 != 1) fun (v1776:Bool)=>
bif v1776 then
rt false
else
lt (w1772.2.2.1 != 1) fun (v1777:Bool)=>
bif v1777 then
rt false
else
lt (w1773.2.1.length:Int) fun (v1778:Int)=>
lt (ilt 0 v1778) fun v1779=>
bif v1779 then
rt false
else
lt (w1773.2.2 != 1) fun (v1780:Bool)=>
bif v1780 then
rt false
else
lt (di.r (some ((none,(none,())),([0,0,0,0],()))) w1641.2.2.1.2.1 3) fun w1781=>
rq w1781.1<|
lt (bf.r (some ((none,(none,())),([0,0,0,0],()))) 0 [(1,([0,0,0,0],()))]) fun w1782=>
bif Nat.beq w1782.2.1 0 then
rq w1782.1<|
lt (aD.r (some ((none,(none,())),([0,0,0,0],()))) []) fun w1783=>
rq w1783.1<|
lt (w1781.2.1.length:Int) fun (v1784:Int)=>
lt (ilt 0 v1784) fun v1785=>
bif v1785 then
rt false
else
lt (w1781.2.2 != 1) fun (v1786:Bool)=>
bif v1786 then
rt false
else
lt (w1782.2.2.1 != 1) fun (v1787:Bool)=>
bif v1787 then
rt false
else
lt (w1783.2.1.length:Int) fun (v1788:Int)=>
lt (ilt 0 v1788) fun v1789=>
bif v1789 then
rt false
else
lt (w1783.2.2 != 1) fun (v1790:Bool)=>
bif v1790 then
rt false
else
lt aU.ro fun w1791=>
rq w1791.1<|
rt w1791.2
else
rq w1782.1<|
lt (aD.r (some ((none,(none,())),([0,0,0,0],()))) []) fun w1792=>
rq w1792.1<|
lt (w1781.2.1.length:Int) fun (v1793:Int)=>
lt (ilt 0 v1793) fun v1794=>
bif v1794 then
rt false
else
lt (w1781.2.2 != 1) fun (v1795:Bool)=>
bif v1795 then
rt false
else
lt ((w1782.2.2.2.2.1:Nat):Int) fun (v1796:Int)=>
lt (ilt 0 v1796) fun v1797=>
bif v1797 then
rt false
else
lt (w1782.2.2.2.2.2.1 != 1) fun (v1798:Bool)=>
bif v1798 then
rt false
else
lt (w1792.2.1.length:Int) fun (v1799:Int)=>
lt (ilt 0 v1799) fun v1800=>
bif v1800 then
rt false
else
lt (w1792.2.2 != 1) fun (v1801:Bool)=>
bif v1801 then
rt false
else
lt aU.ro fun w1802=>
rq w1802.1<|
rt w1802.2
else
rq w1772.1<|
lt (aD.r none []) fun w1803=>
rq w1803.1<|
lt (w1771.2.1.length:Int) fun (v1804:Int)=>
lt (ilt 0 v1804) fun v1805=>
bif v1805 then
rt false
else
lt (w1771.2.2 != 1) fun (v1806:Bool)=>
bif v1806 then
rt false
else
lt ((w1772.2.2.2.2.1:Nat):Int) fun (v1807:Int)=>
lt (ilt 0 v1807) fun v1808=>
bif v1808 then
rt false
else
lt (w1772.2.2.2.2.2.1 != 1) fun (v1809:Bool)=>
bif v1809 then
rt false
else
lt (w1803.2.1.length:Int) fun (v1810:Int)=>
lt (ilt 0 v1810) fun v1811=>
bif v1811 then
rt false
else
lt (w1803.2.2 != 1) fun (v1812:Bool)=>
bif v1812 then
rt false
else
lt (di.r (some ((none,(none,())),([0,0,0,0],()))) w1641.2.2.1.2.1 3) fun w1813=>
rq w1813.1<|
lt (bf.r (some ((none,(none,())),([0,0,0,0],()))) 0 [(1,([0,0,0,0],()))]) fun w1814=>
bif Nat.beq w1814.2.1 0 then
rq w1814.1<|
lt (aD.r (some ((none,(none,())),([0,0,0,0],()))) []) fun w1815=>
rq w1815.1<|
lt (w1813.2.1.length:Int) fun (v1816:Int)=>
lt (ilt 0 v1816) fun v1817=>
bif v1817 then
rt false
else
lt (w1813.2.2 != 1) fun (v1818:Bool)=>
bif v1818 then
rt false
else
lt (w1814.2.2.1 != 1) fun (v1819:Bool)=>
bif v1819 then
rt false
else
lt (w1815.2.1.length:Int) fun (v1820:Int)=>
lt (ilt 0 v1820) fun v1821=>
bif v1821 then
rt false
else
lt (w1815.2.2 != 1) fun (v1822:Bool)=>
bif v1822 then
rt false
else
lt aU.ro fun w1823=>
rq w1823.1<|
rt w1823.2
else
rq w1814.1<|
lt (aD.r (some ((none,(none,())),([0,0,0,0],()))) []) fun w1824=>
rq w1824.1<|
lt (w1813.2.1.length:Int) fun (v1825:Int)=>
lt (ilt 0 v1825) fun v1826=>
bif v1826 then
rt false
else
lt (w1813.2.2 != 1) fun (v1827:Bool)=>
bif v1827 then
rt false
else
lt ((w1814.2.2.2.2.1:Nat):Int) fun (v1828:Int)=>
lt (ilt 0 v1828) fun v1829=>
bif v1829 then
rt false
else
lt (w1814.2.2.2.2.2.1 != 1) fun (v1830:Bool)=>
bif v1830 then
rt false
else
lt (w1824.2.1.length:Int) fun (v1831:Int)=>
lt (ilt 0 v1831) fun v1832=>
bif v1832 then
rt false
else
lt (w1824.2.2 != 1) fun (v1833:Bool)=>
bif v1833 then
rt false
else
lt aU.ro fun w1834=>
rq w1834.1<|
rt w1834.2
else
lt (di.r none w1641.2.2.1.2.1 3) fun w1835=>
rq w1835.1<|
lt (bf.r none 0 [(1,([0,0,0,0],()))]) fun w1836=>
bif Nat.beq w1836.2.1 0 then
rq w1836.1<|
lt (aD.r none []) fun w1837=>
rq w1837.1<|
lt (w1835.2.1.length:Int) fun (v1838:Int)=>
lt (ilt 0 v1838) fun v1839=>
bif v1839 then
rt false
else
lt (w1835.2.2 != 1) fun (v1840:Bool)=>
bif v1840 then
rt false
else
lt (w1836.2.2.1 != 1) fun (v1841:Bool)=>
bif v1841 then
rt false
else
lt (w1837.2.1.length:Int) fun (v1842:Int)=>
lt (ilt 0 v1842) fun v1843=>
bif v1843 then
rt false
else
lt (w1837.2.2 != 1) fun (v1844:Bool)=>
bif v1844 then
rt false
else
lt (di.r (some ((none,(none,())),([0,0,0,0],()))) w1641.2.2.1.2.1 3) fun w1845=>
rq w1845.1<|
lt (bf.r (some ((none,(none,())),([0,0,0,0],()))) 0 [(1,([0,0,0,0],()))]) fun w1846=>
bif Nat.beq w1846.2.1 0 then
rq w1846.1<|
lt (aD.r (some ((none,(none,())),([0,0,0,0],()))) []) fun w1847=>
rq w1847.1<|
lt (w1845.2.1.length:Int) fun (v1848:Int)=>
lt (ilt 0 v1848) fun v1849=>
bif v1849 then
rt false
else
lt (w1845.2.2 != 1) fun (v1850:Bool)=>
bif v1850 then
rt false
else
lt (w1846.2.2.1 != 1) fun (v1851:Bool)=>
bif v1851 then
rt false
else
lt (w1847.2.1.length:Int) fun (v1852:Int)=>
lt (ilt 0 v1852) fun v1853=>
bif v1853 then
rt false
else
lt (w1847.2.2 != 1) fun (v1854:Bool)=>
bif v1854 then
rt false
else
lt aU.ro fun w1855=>
rq w1855.1<|
rt w1855.2
else
rq w1846.1<|
lt (aD.r (some ((none,(none,())),([0,0,0,0],()))) []) fun w1856=>
rq w1856.1<|
lt (w1845.2.1.length:Int) fun (v1857:Int)=>
lt (ilt 0 v1857) fun v1858=>
bif v1858 then
rt false
else
lt (w1845.2.2 != 1) fun (v1859:Bool)=>
bif v1859 then
rt false
else
lt ((w1846.2.2.2.2.1:Nat):Int) fun (v1860:Int)=>
lt (ilt 0 v1860) fun v1861=>
bif v1861 then
rt false
else
lt (w1846.2.2.2.2.2.1 != 1) fun (v1862:Bool)=>
bif v1862 then
rt false
else
lt (w1856.2.1.length:Int) fun (v1863:Int)=>
lt (ilt 0 v1863) fun v1864=>
bif v1864 then
rt false
else
lt (w1856.2.2 != 1) fun (v1865:Bool)=>
bif v1865 then
rt false
else
lt aU.ro fun w1866=>
rq w1866.1<|
rt w1866.2
else
rq w1836.1<|
lt (aD.r none []) fun w1867=>
rq w1867.1<|
lt (w1835.2.1.length:Int) fun (v1868:Int)=>
lt (ilt 0 v1868) fun v1869=>
bif v1869 then
rt false
else
lt (w1835.2.2 != 1) fun (v1870:Bool)=>
bif v1870 then
rt false
else
lt ((w1836.2.2.2.2.1:Nat):Int) fun (v1871:Int)=>
lt (ilt 0 v1871) fun v1872=>
bif v1872 then
rt false
else
lt (w1836.2.2.2.2.2.1 != 1) fun (v1873:Bool)=>
bif v1873 then
rt false
else
lt (w1867.2.1.length:Int) fun (v1874:Int)=>
lt (ilt 0 v1874) fun v1875=>
bif v1875 then
rt false
else
lt (w1867.2.2 != 1) fun (v1876:Bool)=>
bif v1876 then
rt false
else
lt (di.r (some ((none,(none,())),([0,0,0,0],()))) w1641.2.2.1.2.1 3) fun w1877=>
rq w1877.1<|
lt (bf.r (some ((none,(none,())),([0,0,0,0],()))) 0 [(1,([0,0,0,0],()))]) fun w1878=>
bif Nat.beq w1878.2.1 0 then
rq w1878.1<|
lt (aD.r (some ((none,(none,())),([0,0,0,0],()))) []) fun w1879=>
rq w1879.1<|
lt (w1877.2.1.length:Int) fun (v1880:Int)=>
lt (ilt 0 v1880) fun v1881=>
bif v1881 then
rt false
else
lt (w1877.2.2 != 1) fun (v1882:Bool)=>
bif v1882 then
rt false
else
lt (w1878.2.2.1 != 1) fun (v1883:Bool)=>
bif v1883 then
rt false
else
lt (w1879.2.1.length:Int) fun (v1884:Int)=>
lt (ilt 0 v1884) fun v1885=>
bif v1885 then
rt false
else
lt (w1879.2.2 != 1) fun (v1886:Bool)=>
bif v1886 then
rt false
else
lt aU.ro fun w1887=>
rq w1887.1<|
rt w1887.2
else
rq w1878.1<|
lt (aD.r (some ((none,(none,())),([0,0,0,0],()))) []) fun w1888=>
rq w1888.1<|
lt (w1877.2.1.length:Int) fun (v1889:Int)=>
lt (ilt 0 v1889) fun v1890=>
bif v1890 then
rt false
else
lt (w1877.2.2 != 1) fun (v1891:Bool)=>
bif v1891 then
rt false
else
lt ((w1878.2.2.2.2.1:Nat):Int) fun (v1892:Int)=>
lt (ilt 0 v1892) fun v1893=>
bif v1893 then
rt false
else
lt (w1878.2.2.2.2.2.1 != 1) fun (v1894:Bool)=>
bif v1894 then
rt false
else
lt (w1888.2.1.length:Int) fun (v1895:Int)=>
lt (ilt 0 v1895) fun v1896=>
bif v1896 then
rt false
else
lt (w1888.2.2 != 1) fun (v1897:Bool)=>
bif v1897 then
rt false
else
lt aU.ro fun w1898=>
rq w1898.1<|
rt w1898.2
def r (xs:(List Int)) (f:(List (List Int))):Bool×X:=g chk (fun x=>(true,x)) xs f
def D:aL:=Dof (P:=Tryz.prog) [aU.rR,bX.ent,aD.ent,di.ent,bf.ent]
abbrev lf1:=dO (R:=Res) [3] (rounds (fun rq kn ke kr x y=>g1 rq kn ke kr x y) () ()) fu1
abbrev lf0:=dO (R:=Res) [1] (rounds (fun rq kn ke kr x y=>g0 rq kn ke kr x y) () ()) fu0
def tab:List (Nat×LE Res):= [(10,.typed (eY 165 sh1 bx1 lS lK lZ (lf1))),(6,.typed (eY 165 sh0 bx0 bH bG bI (lf0)))]
theorem run (xs:(List Int)) (f:(List (List Int))):gX E0 [true] D (iw E0 D tab 9) Tryz.f4 (codeOf Tryz.f4) [.val ⟨.sl (.int .i64),xs⟩,.val ⟨.sl (.arr 4 (.int .u64)),f⟩] []=g (fun c z=>req c z) (fun x=>some (res x)) xs f:=by kernel_rfl
theorem rel (xs:(List Int)) (f:(List (List Int))):J (fun w z=>z=some (res w)) (g chk (fun x=>(true,x)) xs f) (g (fun c z=>req c z) (fun x=>some (res x)) xs f):=by
 unfold g
 with_reducible repeat (first|(apply J.lt; intro _)|apply J.rq|apply J.bif|exact J.rt rfl)
theorem pG:Nonempty (Told E0 D tab Tryz.f4.ntmps (aI (codeOf Tryz.f4) 1) 165 sh1 bx1 lS lK lZ lf1):=fG (sh:=sh1) (bx:=bx1) (ord:=lS) (shR:=lK) (bxR:=lZ) pU (by kernel_rfl) (by kernel_rfl) (by kernel_rfl) [3] _ _ _ @g1 (fun _ _ _ _ _=>by kernel_rfl) (by
  intro _ _ _ _ _ _ _ h i k x y
  simp only [g1]
  with_reducible repeat (first|(apply J.lt; intro _)|apply J.rq|apply J.bif|exact h _ _|exact i _ (by decide) _ _|exact k (by decide) _ _))
theorem dF:Nonempty (Told E0 D tab Tryz.f4.ntmps (aI (codeOf Tryz.f4) 0) 165 sh0 bx0 bH bG bI lf0):=fG (sh:=sh0) (bx:=bx0) (ord:=bH) (shR:=bG) (bxR:=bI) dH (by kernel_rfl) (by kernel_rfl) (by kernel_rfl) [1] _ _ _ @g0 (fun _ _ _ _ _=>by kernel_rfl) (by
  intro _ _ _ _ _ _ _ h i k x y
  simp only [g0]
  with_reducible repeat (first|(apply J.lt; intro _)|apply J.rq|apply J.bif|exact h _ _|exact i _ (by decide) _ _|exact k (by decide) _ _))
theorem dG:fU E0 D tab Tryz.f4.ntmps (codeOf Tryz.f4):=dw (bs:= [aI (codeOf Tryz.f4) 0,aI (codeOf Tryz.f4) 1,aI (codeOf Tryz.f4) 2]) (by kernel_rfl) (aH (bY (by kernel_rfl) (dF)) (aH (bY (by kernel_rfl) (pG)) (aH (PZ (by kernel_rfl)) bA)))
theorem ok:ol Tryz.f4=true:=by kernel_rfl
abbrev aS:List AS:= [.one (.val (.sl (.int .i64))),.one (.val (.sl (.arr 4 (.int .u64))))]
abbrev bS:List Ty:= []
def F (x:ASs aS) (y:Bs bS):Brn Res:=brn (r x.1 x.2.1)
theorem good (x:ASs aS) (y:Bs bS) (h:(F x y).res.1=true):Good Tryz.prog 4 (ASs.mk aS x) (Bs.mk bS y) (F x y).res.2:=
 fI hE0 (aC _) Tryz.func4 ok dG dI (run x.1 x.2.1) (rel x.1 x.2.1) h
def ent:Ent Tryz.prog:=⟨4,shF aS bS F,bW good⟩
end ak
end Go.Own
