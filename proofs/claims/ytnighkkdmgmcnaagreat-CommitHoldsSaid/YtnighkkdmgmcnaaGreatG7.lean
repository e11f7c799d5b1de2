/- What functions compute, printed by wip/gen/gen2.py. -/
import Derived.Test.YtnighkkdmgmcnaaGreatG6
set_option linter.unusedVariables false
set_option linter.unusedSimpArgs false
set_option maxRecDepth 100000
noncomputable section
namespace Go.Own
open Go.Proofs Go.Proofs.YtnighkkdmgmcnaaGreat
namespace bF
def E1:Env:=E0.pooled [(91,999001)] [(999001,.arr 4 (.int .u64))]
theorem hE1:eD Tryz.prog E1:=⟨hE0.ty,hE0.bytes,hE0.mixed,hE0.depth,hE0.lev,hE0.uns,hE0.up⟩
abbrev X:Type:=(List (List (List Int)))×Int
def res (x:(List (List (List Int)))×Int):Res:=⟨[.val ⟨.sl (.sl (.arr 4 (.int .u64))),x.1⟩,.val ⟨.int .i64,x.2⟩],[],[]⟩
abbrev sh2:List (Nat×Sh):= [(0,.p (.ref ak)),(1,.p (.sl (.int .i64))),(4,.nil),(5,.p (.int .i64)),(6,.va 502000 (.arr 4 (.int .u64))),(9,.va 502001 (.sl (.arr 4 (.int .u64)))),(48,.p (.int .i64)),(49,.p (.int .i64)),(76,.va 502002 (.arr 4 (.int .u64))),(77,.p (.int .i64)),(78,.p (.int .i64))]
abbrev bx2:List (Nat×Ty):= [(502000,.dyn (.arr 4 (.int .u64))),(502001,.dyn (.rid 999001 (.arr 4 (.int .u64)))),(502002,.dyn (.arr 4 (.int .u64))),(999001,.pool (.arr 4 (.int .u64)))]
abbrev Sg:List (Nat×Ty):= [(502000,.dyn (.arr 4 (.int .u64))),(502001,.dyn (.rid 999001 (.arr 4 (.int .u64)))),(502002,.dyn (.arr 4 (.int .u64))),(999001,.pool (.arr 4 (.int .u64)))]
abbrev RY:List (Nat×Sh):= []
abbrev SL:List (Nat×Ty):= []
abbrev TQ:List (Nat×Ty):= []
abbrev X2:Type:=(Option af)×(List Int)×Unit×Int×Unit×Unit×Int×Int×Unit×Int×Int×Unit
abbrev Y2:Type:=(Bool×List (List Int))×(Bool×List Nat)×(Bool×List (List Int))×(List (Nat×List (List Int)))×Unit
abbrev U2:Type:=Unit
abbrev V2:Type:=Unit
def g2 {Z:Type} (rq:Bool→Z→Z) (kn:X2→Y2→Z) (ke:Nat→X2→Y2→Z) (kr:U2→V2→Z) (x:X2) (y:Y2):Z:=
lt (ilt x.2.2.2.2.2.2.2.2.2.2.1 x.2.2.2.2.2.2.2.2.2.1) fun v1611=>
bif v1611 then
rq (ile (0:Int) x.2.2.2.2.2.2.2.2.2.2.1&&ilt x.2.2.2.2.2.2.2.2.2.2.1 (y.2.2.1.2.length:Int))<|
lt (y.2.2.1.2.getD x.2.2.2.2.2.2.2.2.2.2.1.toNat [0,0,0,0]) fun (v1612:(List Int))=>
rq (ile (0:Int) x.2.2.2.2.2.2.2.2.2.2.1&&ilt x.2.2.2.2.2.2.2.2.2.2.1 (y.2.1.2.length:Int))<|
lt (y.2.1.2.getD x.2.2.2.2.2.2.2.2.2.2.1.toNat 0) fun (v1613:Nat)=>
lt ((y.2.2.2.1.set v1613 ((bif Nat.beq (y.2.2.2.1.getD v1613 (0,[])).1 3 then 3 else 2),(y.2.2.2.1.getD v1613 (0,[])).2))++ [(1,((y.2.2.2.1.getD v1613 (0,[])).2++ [v1612]))]) fun (v1614:(List (Nat×List (List Int))))=>
rq ((!Nat.beq (y.2.2.2.1.getD v1613 (0,[])).1 2)&&nle ((2*((y.2.2.2.1.getD v1613 (0,[])).2.length+1)+512)*32) 70368744177664)<|
rq (ile (0:Int) x.2.2.2.2.2.2.2.2.2.2.1&&ilt x.2.2.2.2.2.2.2.2.2.2.1 (y.2.1.2.length:Int))<|
lt (y.2.1.2.set x.2.2.2.2.2.2.2.2.2.2.1.toNat y.2.2.2.1.length) fun (v1615:(List Nat))=>
lt (IntKind.i64.wrap (x.2.2.2.2.2.2.2.2.2.2.1+1)) fun v1616=>
kn (x.1,x.2.1,(),x.2.2.2.1,(),(),x.2.2.2.2.2.2.1,x.2.2.2.2.2.2.2.1,(),x.2.2.2.2.2.2.2.2.2.1,v1616,()) (y.1,(y.2.1.1,v1615),y.2.2.1,v1614,())
else
ke 4 (x.1,x.2.1,(),x.2.2.2.1,(),(),x.2.2.2.2.2.2.1,x.2.2.2.2.2.2.2.1,(),x.2.2.2.2.2.2.2.2.2.1,x.2.2.2.2.2.2.2.2.2.2.1,()) (y.1,y.2.1,y.2.2.1,y.2.2.2.1,())
def fu2 (x:X2) (y:Y2):Nat:=(x.2.2.2.2.2.2.2.2.2.1 - x.2.2.2.2.2.2.2.2.2.2.1).toNat+1
def l2 (x:X2) (y:Y2):Bool×Nat×X2×Y2×U2×V2:=rounds (fun rq kn ke kr x y=>g2 rq kn ke kr x y) () () (fu2 x y) x y
abbrev sh1:List (Nat×Sh):= [(0,.p (.ref ak)),(1,.p (.sl (.int .i64))),(4,.nil),(5,.p (.int .i64)),(6,.va 501000 (.arr 4 (.int .u64))),(9,.va 501001 (.sl (.arr 4 (.int .u64)))),(48,.p (.int .i64)),(49,.p (.int .i64))]
abbrev bx1:List (Nat×Ty):= [(501000,.dyn (.arr 4 (.int .u64))),(501001,.dyn (.rid 999001 (.arr 4 (.int .u64)))),(999001,.pool (.arr 4 (.int .u64)))]
abbrev nI:List (Nat×Ty):= [(501000,.dyn (.arr 4 (.int .u64))),(501001,.dyn (.rid 999001 (.arr 4 (.int .u64)))),(999001,.pool (.arr 4 (.int .u64)))]
abbrev nG:List (Nat×Sh):= [(4,.nil),(5,.p (.int .i64))]
abbrev nS:List (Nat×Ty):= [(999001,.pool (.arr 4 (.int .u64)))]
abbrev rQ:List (Nat×Ty):= [(999001,.pool (.arr 4 (.int .u64)))]
abbrev X1:Type:=(Option af)×(List Int)×Unit×Int×Unit×Unit×Int×Int×Unit
abbrev Y1:Type:=(Bool×List (List Int))×(Bool×List Nat)×(List (Nat×List (List Int)))×Unit
abbrev U1:Type:=Unit×Int×Unit
abbrev V1:Type:=(List (Nat×List (List Int)))×Unit
def g1 {Z:Type} (rq:Bool→Z→Z) (kn:X1→Y1→Z) (ke:Nat→X1→Y1→Z) (kr:U1→V1→Z) (x:X1) (y:Y1):Z:=
lt (ilt x.2.2.2.2.2.2.2.1 x.2.2.2.2.2.2.1) fun v1438=>
bif v1438 then
lt (x.2.1.length:Int) fun (v1439:Int)=>
lt (List.replicate v1439.toNat [0,0,0,0]) fun (v1440:(List (List Int)))=>
rq ((ile (0:Int) v1439&&ile v1439 v1439)&&ile (v1439*((32:Nat):Int)) 70368744177664)<|
lt (dM.r 1) fun w1441=>
rq w1441.1<|
rq (ile (0:Int) x.2.2.2.2.2.2.2.1&&ilt x.2.2.2.2.2.2.2.1 (v1440.length:Int))<|
lt (v1440.set x.2.2.2.2.2.2.2.1.toNat w1441.2) fun (v1442:(List (List Int)))=>
lt (gV.r x.1 y.1.2 v1442) fun w1603=>
bif Nat.beq w1603.2.1 0 then
rq w1603.1<|
lt (w1603.2.2.1 != 0) fun (v1604:Bool)=>
bif v1604 then
kr ((),w1603.2.2.1,()) (y.2.2.1,())
else
lt (x.2.1.length:Int) fun (v1605:Int)=>
lt (IntKind.i64.wrap (v1605 - 0)) fun v1606=>
lt ((List.replicate v1606.toNat ([0,0,0,0]:(List Int))).isEmpty) fun (v1607:Bool)=>
lt (List.replicate v1606.toNat ([0,0,0,0]:(List Int))) fun (v1608:(List (List Int)))=>
rq (ile (0:Int) v1606&&nle ((2*(0+(List.replicate v1606.toNat ([0,0,0,0]:(List Int))).length)+512)*32) 70368744177664)<|
lt (v1608.length:Int) fun (v1609:Int)=>
lt (bF.l2 (x.1,x.2.1,(),x.2.2.2.1,(),(),x.2.2.2.2.2.2.1,x.2.2.2.2.2.2.2.1,(),v1609,0,()) (y.1,y.2.1,(v1607,v1608),y.2.2.1,())) fun w1617=>
rq w1617.1<|
lt (IntKind.i64.wrap (w1617.2.2.1.2.2.2.2.2.2.2.1+1)) fun v1618=>
kn (w1617.2.2.1.1,w1617.2.2.1.2.1,(),w1617.2.2.1.2.2.2.1,(),(),w1617.2.2.1.2.2.2.2.2.2.1,v1618,()) (w1617.2.2.2.1.1,w1617.2.2.2.1.2.1,w1617.2.2.2.1.2.2.2.1,())
else
rq w1603.1<|
lt (w1603.2.2.2.2.2.1 != 0) fun (v1619:Bool)=>
bif v1619 then
kr ((),w1603.2.2.2.2.2.1,()) (y.2.2.1,())
else
lt (x.2.1.length:Int) fun (v1620:Int)=>
lt ((w1603.2.2.2.2.1:Nat):Int) fun (v1621:Int)=>
lt (IntKind.i64.wrap (v1620 - v1621)) fun v1622=>
lt ((w1603.2.2.2.2.2.2.1&&neq w1603.2.2.2.2.1 0)&&(List.replicate v1622.toNat ([0,0,0,0]:(List Int))).isEmpty) fun (v1623:Bool)=>
lt (((w1603.2.2.2.2.2.2.2.drop w1603.2.2.2.1).take w1603.2.2.2.2.1)++(List.replicate v1622.toNat ([0,0,0,0]:(List Int)))) fun (v1624:(List (List Int)))=>
rq (ile (0:Int) v1622&&nle ((2*(((w1603.2.2.2.2.2.2.2.drop w1603.2.2.2.1).take w1603.2.2.2.2.1).length+(List.replicate v1622.toNat ([0,0,0,0]:(List Int))).length)+512)*32) 70368744177664)<|
lt (v1624.length:Int) fun (v1625:Int)=>
lt (bF.l2 (x.1,x.2.1,(),x.2.2.2.1,(),(),x.2.2.2.2.2.2.1,x.2.2.2.2.2.2.2.1,(),v1625,0,()) (y.1,y.2.1,(v1623,v1624),y.2.2.1,())) fun w1626=>
rq w1626.1<|
lt (IntKind.i64.wrap (w1626.2.2.1.2.2.2.2.2.2.2.1+1)) fun v1627=>
kn (w1626.2.2.1.1,w1626.2.2.1.2.1,(),w1626.2.2.1.2.2.2.1,(),(),w1626.2.2.1.2.2.2.2.2.2.1,v1627,()) (w1626.2.2.2.1.1,w1626.2.2.2.1.2.1,w1626.2.2.2.1.2.2.2.1,())
else
ke 2 (x.1,x.2.1,(),x.2.2.2.1,(),(),x.2.2.2.2.2.2.1,x.2.2.2.2.2.2.2.1,()) (y.1,y.2.1,y.2.2.1,())
def fu1 (x:X1) (y:Y1):Nat:=(x.2.2.2.2.2.2.1 - x.2.2.2.2.2.2.2.1).toNat+1
def l1 (x:X1) (y:Y1):Bool×Nat×X1×Y1×U1×V1:=rounds (fun rq kn ke kr x y=>g1 rq kn ke kr x y) ((),0,()) ([],()) (fu1 x y) x y
abbrev sh0:List (Nat×Sh):= [(0,.p (.ref ak)),(1,.p (.sl (.int .i64))),(4,.nil),(5,.p (.int .i64)),(6,.va 500000 (.arr 4 (.int .u64))),(32,.p (.sl (.int .i64))),(33,.p (.int .i64)),(34,.p (.int .i64))]
abbrev bx0:List (Nat×Ty):= [(500000,.dyn (.arr 4 (.int .u64))),(999001,.pool (.arr 4 (.int .u64)))]
abbrev aY:List (Nat×Ty):= [(500000,.dyn (.arr 4 (.int .u64))),(999001,.pool (.arr 4 (.int .u64)))]
abbrev aX:List (Nat×Sh):= []
abbrev aZ:List (Nat×Ty):= []
abbrev bX:List (Nat×Ty):= []
abbrev X0:Type:=(Option af)×(List Int)×Unit×Int×Unit×(List Int)×Int×Int×Unit
abbrev Y0:Type:=(Bool×List (List Int))×(List (Nat×List (List Int)))×Unit
abbrev U0:Type:=Unit
abbrev V0:Type:=Unit
def g0 {Z:Type} (rq:Bool→Z→Z) (kn:X0→Y0→Z) (ke:Nat→X0→Y0→Z) (kr:U0→V0→Z) (x:X0) (y:Y0):Z:=
lt (ilt x.2.2.2.2.2.2.2.1 x.2.2.2.2.2.2.1) fun v1426=>
bif v1426 then
lt (x.2.2.2.2.2.1.getD x.2.2.2.2.2.2.2.1.toNat 0) fun (v1427:Int)=>
rq (ile (0:Int) x.2.2.2.2.2.2.2.1&&ilt x.2.2.2.2.2.2.2.1 (x.2.2.2.2.2.1.length:Int))<|
lt (dM.r v1427) fun w1428=>
rq w1428.1<|
lt (y.1.1&&false) fun (v1429:Bool)=>
lt (y.1.2++ [w1428.2]) fun (v1430:(List (List Int)))=>
rq (nle ((2*(y.1.2.length+1)+512)*32) 70368744177664)<|
lt (IntKind.i64.wrap (x.2.2.2.2.2.2.2.1+1)) fun v1431=>
kn (x.1,x.2.1,(),x.2.2.2.1,(),x.2.2.2.2.2.1,x.2.2.2.2.2.2.1,v1431,()) ((v1429,v1430),y.2.1,())
else
ke 0 (x.1,x.2.1,(),x.2.2.2.1,(),x.2.2.2.2.2.1,x.2.2.2.2.2.2.1,x.2.2.2.2.2.2.2.1,()) (y.1,y.2.1,())
def fu0 (x:X0) (y:Y0):Nat:=(x.2.2.2.2.2.2.1 - x.2.2.2.2.2.2.2.1).toNat+1
def l0 (x:X0) (y:Y0):Bool×Nat×X0×Y0×U0×V0:=rounds (fun rq kn ke kr x y=>g0 rq kn ke kr x y) () () (fu0 x y) x y
def g {Z:Type} (rq:Bool→Z→Z) (rt:X→Z) (gx:(Option af)) (xs:(List Int)):Z:=
lt (bA.r gx) fun w1420=>
rq w1420.1<|
bif w1420.2.isNone then
rt ([],1)
else
lt (xs.length:Int) fun (v1421:Int)=>
lt (ilt 8 v1421) fun v1422=>
bif v1422 then
rt ([],1)
else
lt (kE.r xs 0) fun w1423=>
rq w1423.1<|
bif w1423.2 then
rt ([],1)
else
lt (mG.r xs) fun w1424=>
rq w1424.1<|
bif w1424.2 then
rt ([],1)
else
lt (xs.length:Int) fun (v1425:Int)=>
lt (bF.l0 (gx,xs,(),0,(),xs,v1425,0,()) ((true,[]),[],())) fun w1432=>
rq w1432.1<|
lt (w1432.2.2.1.2.1.length:Int) fun (v1433:Int)=>
lt (w1432.2.2.2.1.2.1++ [(3,[])]) fun (v1434:(List (Nat×List (List Int))))=>
lt (List.replicate v1433.toNat w1432.2.2.2.1.2.1.length) fun (v1435:(List Nat))=>
rq ((ile (0:Int) v1433&&ile v1433 v1433)&&ile (v1433*((24:Nat):Int)) 70368744177664)<|
lt (w1432.2.2.1.2.1.length:Int) fun (v1436:Int)=>
lt (bF.l1 (w1432.2.2.1.1,w1432.2.2.1.2.1,(),w1432.2.2.1.2.2.2.1,(),(),v1436,0,()) (w1432.2.2.2.1.1,(false,v1435),v1434,())) fun w1628=>
rq w1628.1<|
bif Nat.beq w1628.2.1 0 then
rt ([],w1628.2.2.2.2.1.2.1)
else
rt ((w1628.2.2.2.1.2.1.2.map fun r_=>(w1628.2.2.2.1.2.2.1.getD r_ (0,[])).2),0)
def r (gx:(Option af)) (xs:(List Int)):Bool×X:=g chk (fun x=>(true,x)) gx xs
def D:aH:=Dof (P:=Tryz.prog) [bA.ent,kE.ent,mG.ent,dM.ent,gV.ent]
abbrev lf2:=dw (R:=Res) [5] (rounds (fun rq kn ke kr x y=>g2 rq kn ke kr x y) () ()) fu2
abbrev lf1:=dw (R:=Res) [0,3] (rounds (fun rq kn ke kr x y=>g1 rq kn ke kr x y) ((),0,()) ([],())) fu1
abbrev lf0:=dw (R:=Res) [1] (rounds (fun rq kn ke kr x y=>g0 rq kn ke kr x y) () ()) fu0
def tab:List (Nat×LE Res):= [(21,.typed (eY 96 sh2 bx2 Sg RY SL (lf2))),(12,.typed (eY 96 sh1 bx1 nI nG nS (lf1))),(6,.typed (eY 96 sh0 bx0 aY aX aZ (lf0)))]
theorem TK:Nonempty (Told E1 D tab Tryz.f48.ntmps (aG (codeOf Tryz.f48) 2) 96 sh2 bx2 Sg RY SL lf2):=fH (sh:=sh2) (bx:=bx2) (ord:=Sg) (shR:=RY) (bxR:=SL) TQ (by kernel_rfl) (by kernel_rfl) (by kernel_rfl) [5] _ _ _ @g2 (fun _ _ _ _ _=>by kernel_rfl) (by
  intro _ _ _ _ _ _ _ h i k x y
  simp only [g2]
  with_reducible repeat (first|(apply J.lt; intro _)|apply J.rq|apply J.bif|exact h _ _|exact i _ (by decide) _ _|exact k (by decide) _ _))
theorem rf:Nonempty (Told E1 D tab Tryz.f48.ntmps (aG (codeOf Tryz.f48) 1) 96 sh1 bx1 nI nG nS lf1):=fH (sh:=sh1) (bx:=bx1) (ord:=nI) (shR:=nG) (bxR:=nS) rQ (by kernel_rfl) (by kernel_rfl) (by kernel_rfl) [0,3] _ _ _ @g1 (fun _ _ _ _ _=>by kernel_rfl) (by
  intro _ _ _ _ _ _ _ h i k x y
  simp only [g1]
  with_reducible repeat (first|(apply J.lt; intro _)|apply J.rq|apply J.bif|exact h _ _|exact i _ (by decide) _ _|exact k (by decide) _ _))
theorem bV:Nonempty (Told E1 D tab Tryz.f48.ntmps (aG (codeOf Tryz.f48) 0) 96 sh0 bx0 aY aX aZ lf0):=fH (sh:=sh0) (bx:=bx0) (ord:=aY) (shR:=aX) (bxR:=aZ) bX (by kernel_rfl) (by kernel_rfl) (by kernel_rfl) [1] _ _ _ @g0 (fun _ _ _ _ _=>by kernel_rfl) (by
  intro _ _ _ _ _ _ _ h i k x y
  simp only [g0]
  with_reducible repeat (first|(apply J.lt; intro _)|apply J.rq|apply J.bif|exact h _ _|exact i _ (by decide) _ _|exact k (by decide) _ _))
theorem bW:fQ E1 D tab Tryz.f48.ntmps (codeOf Tryz.f48):=bT (bs:= [aG (codeOf Tryz.f48) 0,aG (codeOf Tryz.f48) 1,aG (codeOf Tryz.f48) 2]) (by kernel_rfl) (aF (bP (by kernel_rfl) (bV)) (aF (bP (by kernel_rfl) (rf)) (aF (bP (by kernel_rfl) (TK)) aO)))
abbrev aS:List AS:= [.one (.val (.ref ak)),.one (.val (.sl (.int .i64)))]
abbrev bS:List Ty:= []
def ent:Ent Tryz.prog:=bH (D:=D) (tab:=tab) hE1 (ay _) [true,true] Tryz.func48 (by kernel_rfl) bW aS bS res (fun x y=>r x.1 x.2.1) (fun x y=>g (fun c z=>req c z) (fun x=>some (res x)) x.1 x.2.1) (fun _ _=>by kernel_rfl) (by
 intro x y
 show J _ (g chk (fun x=>(true,x)) x.1 x.2.1) (g (fun c z=>req c z) (fun x=>some (res x)) x.1 x.2.1)
 unfold g
 with_reducible repeat (first|(apply J.lt; intro _)|apply J.rq|apply J.bif|exact J.rt rfl))
end bF
namespace jA
abbrev X:Type:=(List Int)×Int
def res (x:(List Int)×Int):Res:=⟨[.val ⟨.arr 4 (.int .u64),x.1⟩,.val ⟨.int .i64,x.2⟩],[],[]⟩
abbrev sh0:List (Nat×Sh):= [(0,.p (.ref ak)),(1,.p (.sl (.arr 4 (.int .u64)))),(2,.p (.sl (.arr 4 (.int .u64)))),(6,.pb 500000 (.arr 4 (.int .u64)) []),(7,.p (.int .i64)),(8,.pb 500001 (.arr 4 (.int .u64)) []),(22,.p (.int .i64)),(23,.p (.int .i64))]
abbrev bx0:List (Nat×Ty):= [(500000,.arr 4 (.int .u64)),(500001,.arr 4 (.int .u64))]
abbrev aY:List (Nat×Ty):= [(500000,.arr 4 (.int .u64)),(500001,.arr 4 (.int .u64))]
abbrev aX:List (Nat×Sh):= []
abbrev aZ:List (Nat×Ty):= []
abbrev bX:List (Nat×Ty):= []
abbrev X0:Type:=(Option af)×(List (List Int))×(List (List Int))×Unit×Int×Unit×Int×Int×Unit
abbrev Y0:Type:=(List Int)×(List Int)×Unit
abbrev U0:Type:=Unit
abbrev V0:Type:=Unit
def g0 {Z:Type} (rq:Bool→Z→Z) (kn:X0→Y0→Z) (ke:Nat→X0→Y0→Z) (kr:U0→V0→Z) (x:X0) (y:Y0):Z:=
lt (ilt x.2.2.2.2.2.2.2.1 x.2.2.2.2.2.2.1) fun v1641=>
bif v1641 then
lt (x.2.1.getD x.2.2.2.2.2.2.2.1.toNat [0,0,0,0]) fun (v1642:(List Int))=>
rq (ile (0:Int) x.2.2.2.2.2.2.2.1&&ilt x.2.2.2.2.2.2.2.1 (x.2.1.length:Int))<|
lt (x.2.2.1.getD x.2.2.2.2.2.2.2.1.toNat [0,0,0,0]) fun (v1643:(List Int))=>
rq (ile (0:Int) x.2.2.2.2.2.2.2.1&&ilt x.2.2.2.2.2.2.2.1 (x.2.2.1.length:Int))<|
lt (gY.r x.1 v1642 v1643) fun w1644=>
rq w1644.1<|
lt (gZ.r x.1 y.2.1 w1644.2) fun w1645=>
rq w1645.1<|
lt (IntKind.i64.wrap (x.2.2.2.2.2.2.2.1+1)) fun v1646=>
kn (x.1,x.2.1,x.2.2.1,(),x.2.2.2.2.1,(),x.2.2.2.2.2.2.1,v1646,()) (y.1,w1645.2,())
else
ke 0 (x.1,x.2.1,x.2.2.1,(),x.2.2.2.2.1,(),x.2.2.2.2.2.2.1,x.2.2.2.2.2.2.2.1,()) (y.1,y.2.1,())
def fu0 (x:X0) (y:Y0):Nat:=(x.2.2.2.2.2.2.1 - x.2.2.2.2.2.2.2.1).toNat+1
def l0 (x:X0) (y:Y0):Bool×Nat×X0×Y0×U0×V0:=rounds (fun rq kn ke kr x y=>g0 rq kn ke kr x y) () () (fu0 x y) x y
def g {Z:Type} (rq:Bool→Z→Z) (rt:X→Z) (gx:(Option af)) (a:(List (List Int))) (b:(List (List Int))):Z:=
lt (bA.r gx) fun w1635=>
rq w1635.1<|
bif w1635.2.isNone then
rt ([0,0,0,0],1)
else
lt (a.length:Int) fun (v1636:Int)=>
lt (b.length:Int) fun (v1637:Int)=>
lt (v1636 != v1637) fun (v1638:Bool)=>
bif v1638 then
rt ([0,0,0,0],1)
else
lt (a.length:Int) fun (v1639:Int)=>
lt (jA.l0 (gx,a,b,(),0,(),v1639,0,()) ([0,0,0,0],[0,0,0,0],())) fun w1647=>
rq w1647.1<|
rt (w1647.2.2.2.1.2.1,0)
def r (gx:(Option af)) (a:(List (List Int))) (b:(List (List Int))):Bool×X:=g chk (fun x=>(true,x)) gx a b
def D:aH:=Dof (P:=Tryz.prog) [bA.ent,gY.ent,gZ.ent]
abbrev lf0:=dw (R:=Res) [1] (rounds (fun rq kn ke kr x y=>g0 rq kn ke kr x y) () ()) fu0
def tab:List (Nat×LE Res):= [(6,.typed (eY 41 sh0 bx0 aY aX aZ (lf0)))]
theorem bV:Nonempty (Told E0 D tab Tryz.f49.ntmps (aG (codeOf Tryz.f49) 0) 41 sh0 bx0 aY aX aZ lf0):=fH (sh:=sh0) (bx:=bx0) (ord:=aY) (shR:=aX) (bxR:=aZ) bX (by kernel_rfl) (by kernel_rfl) (by kernel_rfl) [1] _ _ _ @g0 (fun _ _ _ _ _=>by kernel_rfl) (by
  intro _ _ _ _ _ _ _ h i k x y
  simp only [g0]
  with_reducible repeat (first|(apply J.lt; intro _)|apply J.rq|apply J.bif|exact h _ _|exact i _ (by decide) _ _|exact k (by decide) _ _))
theorem bW:fQ E0 D tab Tryz.f49.ntmps (codeOf Tryz.f49):=bT (bs:= [aG (codeOf Tryz.f49) 0]) (by kernel_rfl) (aF (bP (by kernel_rfl) (bV)) aO)
abbrev aS:List AS:= [.one (.val (.ref ak)),.one (.val (.sl (.arr 4 (.int .u64)))),.one (.val (.sl (.arr 4 (.int .u64))))]
abbrev bS:List Ty:= []
def ent:Ent Tryz.prog:=bH (D:=D) (tab:=tab) hE0 (ay _) [true,true] Tryz.func49 (by kernel_rfl) bW aS bS res (fun x y=>r x.1 x.2.1 x.2.2.1) (fun x y=>g (fun c z=>req c z) (fun x=>some (res x)) x.1 x.2.1 x.2.2.1) (fun _ _=>by kernel_rfl) (by
 intro x y
 show J _ (g chk (fun x=>(true,x)) x.1 x.2.1 x.2.2.1) (g (fun c z=>req c z) (fun x=>some (res x)) x.1 x.2.1 x.2.2.1)
 unfold g
 with_reducible repeat (first|(apply J.lt; intro _)|apply J.rq|apply J.bif|exact J.rt rfl))
end jA
namespace gy
abbrev X:Type:=(List Int)
def res (x:(List Int)):Res:=⟨[.val ⟨.arr 4 (.int .u64),x⟩],[],[]⟩
abbrev sh0:List (Nat×Sh):= [(0,.p (.ref ak)),(4,.pb 500000 (.arr 4 (.int .u64)) []),(5,.pb 500001 (.arr 4 (.int .u64)) []),(9,.p (.sl (.arr 4 (.int .u64)))),(10,.p (.int .i64)),(11,.p (.int .i64))]
abbrev bx0:List (Nat×Ty):= [(500000,.arr 4 (.int .u64)),(500001,.arr 4 (.int .u64))]
abbrev aY:List (Nat×Ty):= [(500000,.arr 4 (.int .u64)),(500001,.arr 4 (.int .u64))]
abbrev aX:List (Nat×Sh):= []
abbrev aZ:List (Nat×Ty):= []
abbrev bX:List (Nat×Ty):= []
abbrev X0:Type:=(Option af)×Unit×Unit×(List (List Int))×Int×Int×Unit
abbrev Y0:Type:=(List Int)×(List Int)×Unit
abbrev U0:Type:=Unit
abbrev V0:Type:=Unit
def g0 {Z:Type} (rq:Bool→Z→Z) (kn:X0→Y0→Z) (ke:Nat→X0→Y0→Z) (kr:U0→V0→Z) (x:X0) (y:Y0):Z:=
lt (ilt x.2.2.2.2.2.1 x.2.2.2.2.1) fun v1656=>
bif v1656 then
lt (x.2.2.2.1.getD x.2.2.2.2.2.1.toNat [0,0,0,0]) fun (v1657:(List Int))=>
rq (ile (0:Int) x.2.2.2.2.2.1&&ilt x.2.2.2.2.2.1 (x.2.2.2.1.length:Int))<|
lt (fq.r x.1) fun w1658=>
rq w1658.1<|
lt (jf.r w1658.2 y.2.1 v1657) fun w1659=>
rq w1659.1<|
lt (IntKind.i64.wrap (x.2.2.2.2.2.1+1)) fun v1660=>
kn (x.1,(),(),x.2.2.2.1,x.2.2.2.2.1,v1660,()) (y.1,w1659.2,())
else
ke 0 (x.1,(),(),x.2.2.2.1,x.2.2.2.2.1,x.2.2.2.2.2.1,()) (y.1,y.2.1,())
def fu0 (x:X0) (y:Y0):Nat:=(x.2.2.2.2.1 - x.2.2.2.2.2.1).toNat+1
def l0 (x:X0) (y:Y0):Bool×Nat×X0×Y0×U0×V0:=rounds (fun rq kn ke kr x y=>g0 rq kn ke kr x y) () () (fu0 x y) x y
def g {Z:Type} (rq:Bool→Z→Z) (rt:X→Z) (gx:(Option af)) (l:(List (List Int))):Z:=
lt (dM.r 1) fun w1653=>
rq w1653.1<|
lt (l.length:Int) fun (v1654:Int)=>
lt (gy.l0 (gx,(),(),l,v1654,0,()) ([0,0,0,0],w1653.2,())) fun w1661=>
rq w1661.1<|
rt w1661.2.2.2.1.2.1
def r (gx:(Option af)) (l:(List (List Int))):Bool×X:=g chk (fun x=>(true,x)) gx l
def D:aH:=Dof (P:=Tryz.prog) [dM.ent,fq.ent,jf.ent]
abbrev lf0:=dw (R:=Res) [1] (rounds (fun rq kn ke kr x y=>g0 rq kn ke kr x y) () ()) fu0
def tab:List (Nat×LE Res):= [(4,.typed (eY 22 sh0 bx0 aY aX aZ (lf0)))]
theorem bV:Nonempty (Told E0 D tab Tryz.f80.ntmps (aG (codeOf Tryz.f80) 0) 22 sh0 bx0 aY aX aZ lf0):=fH (sh:=sh0) (bx:=bx0) (ord:=aY) (shR:=aX) (bxR:=aZ) bX (by kernel_rfl) (by kernel_rfl) (by kernel_rfl) [1] _ _ _ @g0 (fun _ _ _ _ _=>by kernel_rfl) (by
  intro _ _ _ _ _ _ _ h i k x y
  simp only [g0]
  with_reducible repeat (first|(apply J.lt; intro _)|apply J.rq|apply J.bif|exact h _ _|exact i _ (by decide) _ _|exact k (by decide) _ _))
theorem bW:fQ E0 D tab Tryz.f80.ntmps (codeOf Tryz.f80):=bT (bs:= [aG (codeOf Tryz.f80) 0]) (by kernel_rfl) (aF (bP (by kernel_rfl) (bV)) aO)
abbrev aS:List AS:= [.one (.val (.ref ak)),.one (.val (.sl (.arr 4 (.int .u64))))]
abbrev bS:List Ty:= []
def ent:Ent Tryz.prog:=bH (D:=D) (tab:=tab) hE0 (ay _) [true] Tryz.func80 (by kernel_rfl) bW aS bS res (fun x y=>r x.1 x.2.1) (fun x y=>g (fun c z=>req c z) (fun x=>some (res x)) x.1 x.2.1) (fun _ _=>by kernel_rfl) (by
 intro x y
 show J _ (g chk (fun x=>(true,x)) x.1 x.2.1) (g (fun c z=>req c z) (fun x=>some (res x)) x.1 x.2.1)
 unfold g
 with_reducible repeat (first|(apply J.lt; intro _)|apply J.rq|apply J.bif|exact J.rt rfl))
end gy
namespace pI
abbrev X:Type:=(List Int)
def res (x:(List Int)):Res:=⟨[.val ⟨.arr 4 (.int .u64),x⟩],[],[]⟩
def g {Z:Type} (rq:Bool→Z→Z) (rt:X→Z) (gx:(Option af)) (a:(List Int)) (b:(List Int)):Z:=
lt (gy.r gx [a,b]) fun w1662=>
rq w1662.1<|
rt w1662.2
def r (gx:(Option af)) (a:(List Int)) (b:(List Int)):Bool×X:=g chk (fun x=>(true,x)) gx a b
def D:aH:=Dof (P:=Tryz.prog) [gy.ent]
def tab:List (Nat×LE Res):= []
abbrev aS:List AS:= [.one (.val (.ref ak)),.one (.val (.arr 4 (.int .u64))),.one (.val (.arr 4 (.int .u64)))]
abbrev bS:List Ty:= []
def ent:Ent Tryz.prog:=bH (D:=D) (tab:=tab) hE0 (ay _) [true] Tryz.func50 (by kernel_rfl) aC aS bS res (fun x y=>r x.1 x.2.1 x.2.2.1) (fun x y=>g (fun c z=>req c z) (fun x=>some (res x)) x.1 x.2.1 x.2.2.1) (fun _ _=>by kernel_rfl) (by
 intro x y
 show J _ (g chk (fun x=>(true,x)) x.1 x.2.1 x.2.2.1) (g (fun c z=>req c z) (fun x=>some (res x)) x.1 x.2.1 x.2.2.1)
 unfold g
 with_reducible repeat (first|(apply J.lt; intro _)|apply J.rq|apply J.bif|exact J.rt rfl))
end pI
namespace dN
abbrev X:Type:=(List (List Int))×Int
def res (x:(List (List Int))×Int):Res:=⟨[.val ⟨.sl (.arr 4 (.int .u64)),x.1⟩,.val ⟨.int .i64,x.2⟩],[],[]⟩
def brn (w:Bool×X):Brn Res:= .one w.1 (res w.2)
theorem cB (w:Bool×X):(brn w).res=(w.1,res w.2):=rfl
abbrev sh1:List (Nat×Sh):= [(0,.p (.ref ak)),(4,.pb 501000 (.arr 4 (.int .u64)) []),(6,.nil),(7,.p (.int .i64)),(9,.va 501001 (.arr 4 (.int .u64))),(14,.va 501002 (.arr 4 (.int .u64))),(59,.p (.sl (.sl (.arr 4 (.int .u64))))),(60,.p (.int .i64)),(61,.p (.int .i64))]
abbrev bx1:List (Nat×Ty):= [(501000,.arr 4 (.int .u64)),(501001,.dyn (.arr 4 (.int .u64))),(501002,.dyn (.arr 4 (.int .u64)))]
abbrev nI:List (Nat×Ty):= [(501000,.arr 4 (.int .u64)),(501001,.dyn (.arr 4 (.int .u64))),(501002,.dyn (.arr 4 (.int .u64)))]
abbrev nG:List (Nat×Sh):= [(6,.nil),(7,.p (.int .i64))]
abbrev nS:List (Nat×Ty):= []
abbrev rQ:List (Nat×Ty):= []
abbrev X1:Type:=(Option af)×Unit×Unit×Int×Unit×Unit×(List (List (List Int)))×Int×Int×Unit
abbrev Y1:Type:=(List Int)×(Bool×List (List Int))×(Bool×List (List Int))×Unit
abbrev U1:Type:=Unit×Int×Unit
abbrev V1:Type:=Unit
def g1 {Z:Type} (rq:Bool→Z→Z) (kn:X1→Y1→Z) (ke:Nat→X1→Y1→Z) (kr:U1→V1→Z) (x:X1) (y:Y1):Z:=
lt (ilt x.2.2.2.2.2.2.2.2.1 x.2.2.2.2.2.2.2.1) fun v1682=>
bif v1682 then
lt (x.2.2.2.2.2.2.1.getD x.2.2.2.2.2.2.2.2.1.toNat []) fun (v1683:(List (List Int)))=>
rq (ile (0:Int) x.2.2.2.2.2.2.2.2.1&&ilt x.2.2.2.2.2.2.2.2.1 (x.2.2.2.2.2.2.1.length:Int))<|
lt (jA.r x.1 v1683 y.2.1.2) fun w1684=>
rq w1684.1<|
lt (w1684.2.2 != 0) fun (v1685:Bool)=>
bif v1685 then
kr ((),w1684.2.2,()) ()
else
lt (v1683.getD 0 [0,0,0,0]) fun (v1686:(List Int))=>
rq (ilt (0:Int) (v1683.length:Int))<|
lt (mI.r x.1 y.1 v1686) fun w1687=>
rq w1687.1<|
lt (kY.r x.1 w1684.2.1) fun w1688=>
rq w1688.1<|
lt (pI.r x.1 w1687.2 w1688.2) fun w1689=>
rq w1689.1<|
lt (y.2.2.1.1&&false) fun (v1690:Bool)=>
lt (y.2.2.1.2++ [w1689.2]) fun (v1691:(List (List Int)))=>
rq (nle ((2*(y.2.2.1.2.length+1)+512)*32) 70368744177664)<|
lt (IntKind.i64.wrap (x.2.2.2.2.2.2.2.2.1+1)) fun v1692=>
kn (x.1,(),(),x.2.2.2.1,(),(),x.2.2.2.2.2.2.1,x.2.2.2.2.2.2.2.1,v1692,()) (y.1,y.2.1,(v1690,v1691),())
else
ke 2 (x.1,(),(),x.2.2.2.1,(),(),x.2.2.2.2.2.2.1,x.2.2.2.2.2.2.2.1,x.2.2.2.2.2.2.2.2.1,()) (y.1,y.2.1,y.2.2.1,())
def fu1 (x:X1) (y:Y1):Nat:=(x.2.2.2.2.2.2.2.1 - x.2.2.2.2.2.2.2.2.1).toNat+1
def l1 (x:X1) (y:Y1):Bool×Nat×X1×Y1×U1×V1:=rounds (fun rq kn ke kr x y=>g1 rq kn ke kr x y) ((),0,()) () (fu1 x y) x y
abbrev sh0:List (Nat×Sh):= [(0,.p (.ref ak)),(4,.pb 500000 (.arr 4 (.int .u64)) []),(6,.nil),(7,.p (.int .i64)),(8,.va 500001 (.int .i64)),(9,.va 500002 (.arr 4 (.int .u64))),(31,.p (.sl iV)),(32,.p (.int .i64)),(33,.p (.int .i64))]
abbrev bx0:List (Nat×Ty):= [(500000,.arr 4 (.int .u64)),(500001,.dyn (.int .i64)),(500002,.dyn (.arr 4 (.int .u64)))]
abbrev aY:List (Nat×Ty):= [(500000,.arr 4 (.int .u64)),(500001,.dyn (.int .i64)),(500002,.dyn (.arr 4 (.int .u64)))]
abbrev aX:List (Nat×Sh):= [(6,.nil),(7,.p (.int .i64))]
abbrev aZ:List (Nat×Ty):= []
abbrev bX:List (Nat×Ty):= []
abbrev X0:Type:=(Option af)×Unit×Unit×Int×Unit×Unit×(List fC)×Int×Int×Unit
abbrev Y0:Type:=(List Int)×(Bool×List Int)×(Bool×List (List Int))×Unit
abbrev U0:Type:=Unit×Int×Unit
abbrev V0:Type:=Unit
def g0 {Z:Type} (rq:Bool→Z→Z) (kn:X0→Y0→Z) (ke:Nat→X0→Y0→Z) (kr:U0→V0→Z) (x:X0) (y:Y0):Z:=
lt (ilt x.2.2.2.2.2.2.2.2.1 x.2.2.2.2.2.2.2.1) fun v1670=>
bif v1670 then
lt (x.2.2.2.2.2.2.1.getD x.2.2.2.2.2.2.2.2.1.toNat (0,([0,0,0,0],()))) fun (v1671:fC)=>
rq (ile (0:Int) x.2.2.2.2.2.2.2.2.1&&ilt x.2.2.2.2.2.2.2.2.1 (x.2.2.2.2.2.2.1.length:Int))<|
lt (ilt v1671.1 1) fun v1672=>
bif v1672 then
kr ((),1,()) ()
else
lt (y.2.1.1&&false) fun (v1673:Bool)=>
lt (y.2.1.2++ [v1671.1]) fun (v1674:(List Int))=>
rq (nle ((2*(y.2.1.2.length+1)+512)*8) 70368744177664)<|
lt (y.2.2.1.1&&false) fun (v1675:Bool)=>
lt (y.2.2.1.2++ [v1671.2.1]) fun (v1676:(List (List Int)))=>
rq (nle ((2*(y.2.2.1.2.length+1)+512)*32) 70368744177664)<|
lt (IntKind.i64.wrap (x.2.2.2.2.2.2.2.2.1+1)) fun v1677=>
kn (x.1,(),(),x.2.2.2.1,(),(),x.2.2.2.2.2.2.1,x.2.2.2.2.2.2.2.1,v1677,()) (y.1,(v1673,v1674),(v1675,v1676),())
else
ke 0 (x.1,(),(),x.2.2.2.1,(),(),x.2.2.2.2.2.2.1,x.2.2.2.2.2.2.2.1,x.2.2.2.2.2.2.2.2.1,()) (y.1,y.2.1,y.2.2.1,())
def fu0 (x:X0) (y:Y0):Nat:=(x.2.2.2.2.2.2.2.1 - x.2.2.2.2.2.2.2.2.1).toNat+1
def l0 (x:X0) (y:Y0):Bool×Nat×X0×Y0×U0×V0:=rounds (fun rq kn ke kr x y=>g0 rq kn ke kr x y) ((),0,()) () (fu0 x y) x y
def g {Z:Type} (rq:Bool→Z→Z) (rt:X→Z) (gx:(Option af)) (first:(List Int)) (l:(List fC)):Z:=
lt (l.length:Int) fun (v1665:Int)=>
lt (ile 7 v1665) fun v1666=>
bif v1666 then
rt ([],1)
else
lt (oI.r gx first) fun w1667=>
rq w1667.1<|
lt (!w1667.2) fun (v1668:Bool)=>
bif v1668 then
rt ([],1)
else
lt (l.length:Int) fun (v1669:Int)=>
lt (dN.l0 (gx,(),(),0,(),(),l,v1669,0,()) (first,(false,[0]),(false,[[0,0,0,0]]),())) fun w1678=>
rq w1678.1<|
bif Nat.beq w1678.2.1 0 then
rt ([],w1678.2.2.2.2.1.2.1)
else
lt (bF.r w1678.2.2.1.1 w1678.2.2.2.1.2.1.2) fun w1679=>
rq w1679.1<|
lt (w1679.2.2 != 0) fun (v1680:Bool)=>
bif v1680 then
rt ([],1)
else
lt (w1679.2.1.length:Int) fun (v1681:Int)=>
lt (dN.l1 (w1678.2.2.1.1,(),(),w1678.2.2.1.2.2.2.1,(),(),w1679.2.1,v1681,0,()) (w1678.2.2.2.1.1,w1678.2.2.2.1.2.2.1,(true,[]),())) fun w1693=>
rq w1693.1<|
bif Nat.beq w1693.2.1 0 then
rt ([],w1693.2.2.2.2.1.2.1)
else
rt (w1693.2.2.2.1.2.2.1.2,0)
def r (gx:(Option af)) (first:(List Int)) (l:(List fC)):Bool×X:=g chk (fun x=>(true,x)) gx first l
def D:aH:=Dof (P:=Tryz.prog) [oI.ent,bF.ent,jA.ent,mI.ent,kY.ent,pI.ent]
abbrev lf1:=dw (R:=Res) [0,3] (rounds (fun rq kn ke kr x y=>g1 rq kn ke kr x y) ((),0,()) ()) fu1
abbrev lf0:=dw (R:=Res) [0,1] (rounds (fun rq kn ke kr x y=>g0 rq kn ke kr x y) ((),0,()) ()) fu0
def tab:List (Nat×LE Res):= [(18,.typed (eY 91 sh1 bx1 nI nG nS (lf1))),(7,.typed (eY 91 sh0 bx0 aY aX aZ (lf0)))]
theorem run (gx:(Option af)) (first:(List Int)) (l:(List fC)):gL E0 [true,true] D (iG E0 D tab 9) Tryz.f23 (codeOf Tryz.f23) [.val ⟨.ref ak,gx⟩,.val ⟨.arr 4 (.int .u64),first⟩,.val ⟨.sl iV,l⟩] []=g (fun c z=>req c z) (fun x=>some (res x)) gx first l:=by kernel_rfl
theorem rel (gx:(Option af)) (first:(List Int)) (l:(List fC)):J (fun w z=>z=some (res w)) (g chk (fun x=>(true,x)) gx first l) (g (fun c z=>req c z) (fun x=>some (res x)) gx first l):=by
 unfold g
 with_reducible repeat (first|(apply J.lt; intro _)|apply J.rq|apply J.bif|exact J.rt rfl)
theorem rf:Nonempty (Told E0 D tab Tryz.f23.ntmps (aG (codeOf Tryz.f23) 1) 91 sh1 bx1 nI nG nS lf1):=fH (sh:=sh1) (bx:=bx1) (ord:=nI) (shR:=nG) (bxR:=nS) rQ (by kernel_rfl) (by kernel_rfl) (by kernel_rfl) [0,3] _ _ _ @g1 (fun _ _ _ _ _=>by kernel_rfl) (by
  intro _ _ _ _ _ _ _ h i k x y
  simp only [g1]
  with_reducible repeat (first|(apply J.lt; intro _)|apply J.rq|apply J.bif|exact h _ _|exact i _ (by decide) _ _|exact k (by decide) _ _))
theorem bV:Nonempty (Told E0 D tab Tryz.f23.ntmps (aG (codeOf Tryz.f23) 0) 91 sh0 bx0 aY aX aZ lf0):=fH (sh:=sh0) (bx:=bx0) (ord:=aY) (shR:=aX) (bxR:=aZ) bX (by kernel_rfl) (by kernel_rfl) (by kernel_rfl) [0,1] _ _ _ @g0 (fun _ _ _ _ _=>by kernel_rfl) (by
  intro _ _ _ _ _ _ _ h i k x y
  simp only [g0]
  with_reducible repeat (first|(apply J.lt; intro _)|apply J.rq|apply J.bif|exact h _ _|exact i _ (by decide) _ _|exact k (by decide) _ _))
theorem bW:fQ E0 D tab Tryz.f23.ntmps (codeOf Tryz.f23):=bT (bs:= [aG (codeOf Tryz.f23) 0,aG (codeOf Tryz.f23) 1]) (by kernel_rfl) (aF (bP (by kernel_rfl) (bV)) (aF (bP (by kernel_rfl) (rf)) aO))
theorem ok:nA Tryz.f23=true:=by kernel_rfl
abbrev aS:List AS:= [.one (.val (.ref ak)),.one (.val (.arr 4 (.int .u64))),.one (.val (.sl iV))]
abbrev bS:List Ty:= []
def F (x:ASs aS) (y:Bs bS):Brn Res:=brn (r x.1 x.2.1 x.2.2.1)
theorem good (x:ASs aS) (y:Bs bS) (h:(F x y).res.1=true):Good Tryz.prog 23 (ASs.mk aS x) (Bs.mk bS y) (F x y).res.2:=
 fP hE0 (ay _) Tryz.func23 ok bW cB (run x.1 x.2.1 x.2.2.1) (rel x.1 x.2.1 x.2.2.1) h
def ent:Ent Tryz.prog:=⟨23,shF aS bS F,bM good⟩
def ro:(Option af)→(List Int)→(List fC)→Bool×X:=Classical.choose (⟨r,rfl⟩:∃ q:(Option af)→(List Int)→(List fC)→Bool×X,q=r)
theorem gB:ro=r:=Classical.choose_spec (⟨r,rfl⟩:∃ q:(Option af)→(List Int)→(List fC)→Bool×X,q=r)
def FO (x:ASs aS) (y:Bs bS):Brn Res:=brn (ro x.1 x.2.1 x.2.2.1)
theorem jN:FO=F:=by unfold FO F; rw [gB]
def nO:Ent Tryz.prog:=⟨23,shF aS bS FO,bM (by rw [jN]; exact good)⟩
end dN
namespace lm
abbrev X:Type:=Bool
def res (x:Bool):Res:=⟨[.val ⟨.bool,x⟩],[],[]⟩
def g {Z:Type} (rq:Bool→Z→Z) (rt:X→Z) (gx:(Option af)) (a:(List Int)):Z:=
lt (bA.r gx) fun w1698=>
rq w1698.1<|
lt (iK.r w1698.2 a) fun w1699=>
rq w1699.1<|
rt w1699.2
def r (gx:(Option af)) (a:(List Int)):Bool×X:=g chk (fun x=>(true,x)) gx a
def D:aH:=Dof (P:=Tryz.prog) [bA.ent,iK.ent]
def tab:List (Nat×LE Res):= []
abbrev aS:List AS:= [.one (.val (.ref ak)),.one (.val (.arr 4 (.int .u64)))]
abbrev bS:List Ty:= []
def ent:Ent Tryz.prog:=bH (D:=D) (tab:=tab) hE0 (ay _) [true] Tryz.func46 (by kernel_rfl) aC aS bS res (fun x y=>r x.1 x.2.1) (fun x y=>g (fun c z=>req c z) (fun x=>some (res x)) x.1 x.2.1) (fun _ _=>by kernel_rfl) (by
 intro x y
 show J _ (g chk (fun x=>(true,x)) x.1 x.2.1) (g (fun c z=>req c z) (fun x=>some (res x)) x.1 x.2.1)
 unfold g
 with_reducible repeat (first|(apply J.lt; intro _)|apply J.rq|apply J.bif|exact J.rt rfl))
end lm
namespace jd
abbrev X:Type:=Bool×(Option af)
def res (x:Bool×(Option af)):Res:=⟨[.val ⟨.bool,x.1⟩],[some ⟨.ref ak,x.2⟩],[]⟩
def g {Z:Type} (rq:Bool→Z→Z) (rt:X→Z) (a:(List Int)) (b:(Option af)):Z:=
lt (oI.r b a) fun w1709=>
rq w1709.1<|
lt (!w1709.2) fun (v1710:Bool)=>
rt (v1710,b)
def r (a:(List Int)) (b:(Option af)):Bool×X:=g chk (fun x=>(true,x)) a b
def D:aH:=Dof (P:=Tryz.prog) [oI.ent]
def tab:List (Nat×LE Res):= []
abbrev aS:List AS:= [.one (.val (.arr 4 (.int .u64))),.one (.pb 1000000 (.ref ak) [])]
abbrev bS:List Ty:= [.ref ak]
def ent:Ent Tryz.prog:=bH (D:=D) (tab:=tab) hE0 (ay _) [true] Tryz.func40 (by kernel_rfl) aC aS bS res (fun x y=>r x.1 y.1) (fun x y=>g (fun c z=>req c z) (fun x=>some (res x)) x.1 y.1) (fun _ _=>by kernel_rfl) (by
 intro x y
 show J _ (g chk (fun x=>(true,x)) x.1 y.1) (g (fun c z=>req c z) (fun x=>some (res x)) x.1 y.1)
 unfold g
 with_reducible repeat (first|(apply J.lt; intro _)|apply J.rq|apply J.bif|exact J.rt rfl))
end jd
namespace aB
abbrev X:Type:=Int×(Option af)
def res (x:Int×(Option af)):Res:=⟨[.val ⟨.int .i64,x.1⟩],[some ⟨.ref ak,x.2⟩],[]⟩
abbrev sh0:List (Nat×Sh):= [(0,.p (.sl (.arr 4 (.int .u64)))),(1,.clo 40 [(1000000,.ref ak)]),(4,.p (.int .i64)),(7,.p (.int .i64)),(8,.p (.int .i64))]
abbrev bx0:List (Nat×Ty):= [(1000000,.ref ak)]
abbrev aY:List (Nat×Ty):= [(1000000,.ref ak)]
abbrev aX:List (Nat×Sh):= [(4,.p (.int .i64))]
abbrev aZ:List (Nat×Ty):= [(1000000,.ref ak)]
abbrev bX:List (Nat×Ty):= [(1000000,.ref ak)]
abbrev X0:Type:=(List (List Int))×Unit×Int×Int×Int×Unit
abbrev Y0:Type:=(Option af)×Unit
abbrev U0:Type:=Int×Unit
abbrev V0:Type:=(Option af)×Unit
def g0 {Z:Type} (rq:Bool→Z→Z) (kn:X0→Y0→Z) (ke:Nat→X0→Y0→Z) (kr:U0→V0→Z) (x:X0) (y:Y0):Z:=
lt (ilt x.2.2.2.2.1 x.2.2.2.1) fun v1707=>
bif v1707 then
lt (x.1.getD x.2.2.2.2.1.toNat [0,0,0,0]) fun (v1708:(List Int))=>
rq (ile (0:Int) x.2.2.2.2.1&&ilt x.2.2.2.2.1 (x.1.length:Int))<|
lt (jd.r v1708 y.1) fun w1711=>
rq w1711.1<|
bif w1711.2.1 then
kr (x.2.2.2.2.1,()) (w1711.2.2,())
else
lt (IntKind.i64.wrap (x.2.2.2.2.1+1)) fun v1712=>
kn (x.1,(),x.2.2.1,x.2.2.2.1,v1712,()) (w1711.2.2,())
else
ke 0 (x.1,(),x.2.2.1,x.2.2.2.1,x.2.2.2.2.1,()) (y.1,())
def fu0 (x:X0) (y:Y0):Nat:=(x.2.2.2.1 - x.2.2.2.2.1).toNat+1
def l0 (x:X0) (y:Y0):Bool×Nat×X0×Y0×U0×V0:=rounds (fun rq kn ke kr x y=>g0 rq kn ke kr x y) (0,()) (none,()) (fu0 x y) x y
def g {Z:Type} (rq:Bool→Z→Z) (rt:X→Z) (s:(List (List Int))) (b:(Option af)):Z:=
lt (s.length:Int) fun (v1705:Int)=>
lt (aB.l0 (s,(),0,v1705,0,()) (b,())) fun w1713=>
rq w1713.1<|
bif Nat.beq w1713.2.1 0 then
rt (w1713.2.2.2.2.1.1,w1713.2.2.2.2.2.1)
else
rt ((-1),w1713.2.2.2.1.1)
def r (s:(List (List Int))) (b:(Option af)):Bool×X:=g chk (fun x=>(true,x)) s b
def D:aH:=Dof (P:=Tryz.prog) [jd.ent]
abbrev lf0:=dw (R:=Res) [0,1] (rounds (fun rq kn ke kr x y=>g0 rq kn ke kr x y) (0,()) (none,())) fu0
def tab:List (Nat×LE Res):= [(3,.typed (eY 19 sh0 bx0 aY aX aZ (lf0)))]
theorem bV:Nonempty (Told E0 D tab Tryz.f68.ntmps (aG (codeOf Tryz.f68) 0) 19 sh0 bx0 aY aX aZ lf0):=fH (sh:=sh0) (bx:=bx0) (ord:=aY) (shR:=aX) (bxR:=aZ) bX (by kernel_rfl) (by kernel_rfl) (by kernel_rfl) [0,1] _ _ _ @g0 (fun _ _ _ _ _=>by kernel_rfl) (by
  intro _ _ _ _ _ _ _ h i k x y
  simp only [g0]
  with_reducible repeat (first|(apply J.lt; intro _)|apply J.rq|apply J.bif|exact h _ _|exact i _ (by decide) _ _|exact k (by decide) _ _))
theorem bW:fQ E0 D tab Tryz.f68.ntmps (codeOf Tryz.f68):=bT (bs:= [aG (codeOf Tryz.f68) 0]) (by kernel_rfl) (aF (bP (by kernel_rfl) (bV)) aO)
abbrev aS:List AS:= [.one (.val (.sl (.arr 4 (.int .u64)))),.clo 40 [.pb 1000000 (.ref ak) []]]
abbrev bS:List Ty:= [.ref ak]
def ent:Ent Tryz.prog:=bH (D:=D) (tab:=tab) hE0 (ay _) [true] Tryz.func68 (by kernel_rfl) bW aS bS res (fun x y=>r x.1 y.1) (fun x y=>g (fun c z=>req c z) (fun x=>some (res x)) x.1 y.1) (fun _ _=>by kernel_rfl) (by
 intro x y
 show J _ (g chk (fun x=>(true,x)) x.1 y.1) (g (fun c z=>req c z) (fun x=>some (res x)) x.1 y.1)
 unfold g
 with_reducible repeat (first|(apply J.lt; intro _)|apply J.rq|apply J.bif|exact J.rt rfl))
end aB
namespace bN
abbrev X:Type:=Bool×(Option af)
def res (x:Bool×(Option af)):Res:=⟨[.val ⟨.bool,x.1⟩],[some ⟨.ref ak,x.2⟩],[]⟩
def g {Z:Type} (rq:Bool→Z→Z) (rt:X→Z) (s:(List (List Int))) (b:(Option af)):Z:=
lt (aB.r s b) fun w1714=>
rq w1714.1<|
lt (ile 0 w1714.2.1) fun v1715=>
rt (v1715,w1714.2.2)
def r (s:(List (List Int))) (b:(Option af)):Bool×X:=g chk (fun x=>(true,x)) s b
def D:aH:=Dof (P:=Tryz.prog) [aB.ent]
def tab:List (Nat×LE Res):= []
abbrev aS:List AS:= [.one (.val (.sl (.arr 4 (.int .u64)))),.clo 40 [.pb 1000000 (.ref ak) []]]
abbrev bS:List Ty:= [.ref ak]
def ent:Ent Tryz.prog:=bH (D:=D) (tab:=tab) hE0 (ay _) [true] Tryz.func39 (by kernel_rfl) aC aS bS res (fun x y=>r x.1 y.1) (fun x y=>g (fun c z=>req c z) (fun x=>some (res x)) x.1 y.1) (fun _ _=>by kernel_rfl) (by
 intro x y
 show J _ (g chk (fun x=>(true,x)) x.1 y.1) (g (fun c z=>req c z) (fun x=>some (res x)) x.1 y.1)
 unfold g
 with_reducible repeat (first|(apply J.lt; intro _)|apply J.rq|apply J.bif|exact J.rt rfl))
end bN
namespace gu
abbrev X:Type:=Bool
def res (x:Bool):Res:=⟨[.val ⟨.bool,x⟩],[],[]⟩
def brn (w:Bool×X):Brn Res:= .one w.1 (res w.2)
theorem cB (w:Bool×X):(brn w).res=(w.1,res w.2):=rfl
def g {Z:Type} (rq:Bool→Z→Z) (rt:X→Z) (gx:(Option af)) (c:(List (List Int))):Z:=
lt (c.length:Int) fun (v1701:Int)=>
lt (ile 1 v1701) fun v1702=>
bif v1702 then
lt (c.length:Int) fun (v1703:Int)=>
lt (ile v1703 7) fun v1704=>
bif v1704 then
lt (bN.r c gx) fun w1716=>
rq w1716.1<|
lt (!w1716.2.1) fun (v1717:Bool)=>
rt v1717
else
rt false
else
rt false
def r (gx:(Option af)) (c:(List (List Int))):Bool×X:=g chk (fun x=>(true,x)) gx c
def D:aH:=Dof (P:=Tryz.prog) [bN.ent]
def tab:List (Nat×LE Res):= []
theorem run (gx:(Option af)) (c:(List (List Int))):gL E0 [true] D (iG E0 D tab 9) Tryz.f14 (codeOf Tryz.f14) [.val ⟨.ref ak,gx⟩,.val ⟨.sl (.arr 4 (.int .u64)),c⟩] []=g (fun c z=>req c z) (fun x=>some (res x)) gx c:=by kernel_rfl
theorem rel (gx:(Option af)) (c:(List (List Int))):J (fun w z=>z=some (res w)) (g chk (fun x=>(true,x)) gx c) (g (fun c z=>req c z) (fun x=>some (res x)) gx c):=by
 unfold g
 with_reducible repeat (first|(apply J.lt; intro _)|apply J.rq|apply J.bif|exact J.rt rfl)
theorem ok:nA Tryz.f14=true:=by kernel_rfl
abbrev aS:List AS:= [.one (.val (.ref ak)),.one (.val (.sl (.arr 4 (.int .u64))))]
abbrev bS:List Ty:= []
def F (x:ASs aS) (y:Bs bS):Brn Res:=brn (r x.1 x.2.1)
theorem good (x:ASs aS) (y:Bs bS) (h:(F x y).res.1=true):Good Tryz.prog 14 (ASs.mk aS x) (Bs.mk bS y) (F x y).res.2:=
 fP hE0 (ay _) Tryz.func14 ok aC cB (run x.1 x.2.1) (rel x.1 x.2.1) h
def ent:Ent Tryz.prog:=⟨14,shF aS bS F,bM good⟩
def ro:(Option af)→(List (List Int))→Bool×X:=Classical.choose (⟨r,rfl⟩:∃ q:(Option af)→(List (List Int))→Bool×X,q=r)
theorem gB:ro=r:=Classical.choose_spec (⟨r,rfl⟩:∃ q:(Option af)→(List (List Int))→Bool×X,q=r)
def FO (x:ASs aS) (y:Bs bS):Brn Res:=brn (ro x.1 x.2.1)
theorem jN:FO=F:=by unfold FO F; rw [gB]
def nO:Ent Tryz.prog:=⟨14,shF aS bS FO,bM (by rw [jN]; exact good)⟩
end gu
namespace mH
abbrev X:Type:=(List Int)×Int
def res (x:(List Int)×Int):Res:=⟨[.val ⟨.arr 4 (.int .u64),x.1⟩,.val ⟨.int .i64,x.2⟩],[],[]⟩
def g {Z:Type} (rq:Bool→Z→Z) (rt:X→Z) (gx:(Option af)) (bases:(List (List Int))) (exps:(List (List Int))):Z:=
lt (fq.r gx) fun w1742=>
rq w1742.1<|
lt (bg.r w1742.2 bases exps) fun w1743=>
rq w1743.1<|
rt (w1743.2.1,w1743.2.2)
def r (gx:(Option af)) (bases:(List (List Int))) (exps:(List (List Int))):Bool×X:=g chk (fun x=>(true,x)) gx bases exps
def D:aH:=Dof (P:=Tryz.prog) [fq.ent,bg.ent]
def tab:List (Nat×LE Res):= []
abbrev aS:List AS:= [.one (.val (.ref ak)),.one (.val (.sl (.arr 4 (.int .u64)))),.one (.val (.sl (.arr 4 (.int .u64))))]
abbrev bS:List Ty:= []
def ent:Ent Tryz.prog:=bH (D:=D) (tab:=tab) hE0 (ay _) [true,true] Tryz.func43 (by kernel_rfl) aC aS bS res (fun x y=>r x.1 x.2.1 x.2.2.1) (fun x y=>g (fun c z=>req c z) (fun x=>some (res x)) x.1 x.2.1 x.2.2.1) (fun _ _=>by kernel_rfl) (by
 intro x y
 show J _ (g chk (fun x=>(true,x)) x.1 x.2.1 x.2.2.1) (g (fun c z=>req c z) (fun x=>some (res x)) x.1 x.2.1 x.2.2.1)
 unfold g
 with_reducible repeat (first|(apply J.lt; intro _)|apply J.rq|apply J.bif|exact J.rt rfl))
end mH
namespace ig
abbrev X:Type:=(List Int)
def res (x:(List Int)):Res:=⟨[.val ⟨.arr 4 (.int .u64),x⟩],[],[]⟩
def brn (w:Bool×X):Brn Res:= .one w.1 (res w.2)
theorem cB (w:Bool×X):(brn w).res=(w.1,res w.2):=rfl
abbrev sh0:List (Nat×Sh):= [(0,.p (.ref ak)),(1,.p (.sl (.arr 4 (.int .u64)))),(2,.p (.int .i64)),(6,.pb 500000 (.arr 4 (.int .u64)) []),(7,.va 500001 (.arr 4 (.int .u64))),(8,.p (.int .i64)),(24,.p (.int .i64)),(25,.p (.int .i64))]
abbrev bx0:List (Nat×Ty):= [(500000,.arr 4 (.int .u64)),(500001,.dyn (.arr 4 (.int .u64)))]
abbrev aY:List (Nat×Ty):= [(500000,.arr 4 (.int .u64)),(500001,.dyn (.arr 4 (.int .u64)))]
abbrev aX:List (Nat×Sh):= []
abbrev aZ:List (Nat×Ty):= []
abbrev bX:List (Nat×Ty):= []
abbrev X0:Type:=(Option af)×(List (List Int))×Int×Unit×Unit×Int×Int×Int×Unit
abbrev Y0:Type:=(List Int)×(Bool×List (List Int))×Unit
abbrev U0:Type:=Unit
abbrev V0:Type:=Unit
def g0 {Z:Type} (rq:Bool→Z→Z) (kn:X0→Y0→Z) (ke:Nat→X0→Y0→Z) (kr:U0→V0→Z) (x:X0) (y:Y0):Z:=
lt (ilt x.2.2.2.2.2.2.2.1 x.2.2.2.2.2.2.1) fun v1735=>
bif v1735 then
lt (dM.r x.2.2.2.2.2.1) fun w1736=>
rq w1736.1<|
lt (y.2.1.1&&false) fun (v1737:Bool)=>
lt (y.2.1.2++ [w1736.2]) fun (v1738:(List (List Int)))=>
rq (nle ((2*(y.2.1.2.length+1)+512)*32) 70368744177664)<|
lt (IntKind.i64.wrap (x.2.2.2.2.2.1*x.2.2.1)) fun v1739=>
lt (IntKind.i64.wrap (x.2.2.2.2.2.2.2.1+1)) fun v1740=>
kn (x.1,x.2.1,x.2.2.1,(),(),v1739,x.2.2.2.2.2.2.1,v1740,()) (y.1,(v1737,v1738),())
else
ke 0 (x.1,x.2.1,x.2.2.1,(),(),x.2.2.2.2.2.1,x.2.2.2.2.2.2.1,x.2.2.2.2.2.2.2.1,()) (y.1,y.2.1,())
def fu0 (x:X0) (y:Y0):Nat:=(x.2.2.2.2.2.2.1 - x.2.2.2.2.2.2.2.1).toNat+1
def l0 (x:X0) (y:Y0):Bool×Nat×X0×Y0×U0×V0:=rounds (fun rq kn ke kr x y=>g0 rq kn ke kr x y) () () (fu0 x y) x y
def g {Z:Type} (rq:Bool→Z→Z) (rt:X→Z) (gx:(Option af)) (c:(List (List Int))) (i:Int):Z:=
lt (ilt i 0) fun v1730=>
bif v1730 then
rt [0,0,0,0]
else
lt (ilt 7 i) fun v1731=>
bif v1731 then
rt [0,0,0,0]
else
lt (c.length:Int) fun (v1732:Int)=>
lt (ilt 7 v1732) fun v1733=>
bif v1733 then
rt [0,0,0,0]
else
lt (c.length:Int) fun (v1734:Int)=>
lt (ig.l0 (gx,c,i,(),(),1,v1734,0,()) ([0,0,0,0],(true,[]),())) fun w1741=>
rq w1741.1<|
lt (mH.r w1741.2.2.1.1 w1741.2.2.1.2.1 w1741.2.2.2.1.2.1.2) fun w1744=>
rq w1744.1<|
rt w1744.2.1
def r (gx:(Option af)) (c:(List (List Int))) (i:Int):Bool×X:=g chk (fun x=>(true,x)) gx c i
def D:aH:=Dof (P:=Tryz.prog) [dM.ent,mH.ent]
abbrev lf0:=dw (R:=Res) [1] (rounds (fun rq kn ke kr x y=>g0 rq kn ke kr x y) () ()) fu0
def tab:List (Nat×LE Res):= [(7,.typed (eY 44 sh0 bx0 aY aX aZ (lf0)))]
theorem run (gx:(Option af)) (c:(List (List Int))) (i:Int):gL E0 [true] D (iG E0 D tab 9) Tryz.f16 (codeOf Tryz.f16) [.val ⟨.ref ak,gx⟩,.val ⟨.sl (.arr 4 (.int .u64)),c⟩,.val ⟨.int .i64,i⟩] []=g (fun c z=>req c z) (fun x=>some (res x)) gx c i:=by kernel_rfl
theorem rel (gx:(Option af)) (c:(List (List Int))) (i:Int):J (fun w z=>z=some (res w)) (g chk (fun x=>(true,x)) gx c i) (g (fun c z=>req c z) (fun x=>some (res x)) gx c i):=by
 unfold g
 with_reducible repeat (first|(apply J.lt; intro _)|apply J.rq|apply J.bif|exact J.rt rfl)
theorem bV:Nonempty (Told E0 D tab Tryz.f16.ntmps (aG (codeOf Tryz.f16) 0) 44 sh0 bx0 aY aX aZ lf0):=fH (sh:=sh0) (bx:=bx0) (ord:=aY) (shR:=aX) (bxR:=aZ) bX (by kernel_rfl) (by kernel_rfl) (by kernel_rfl) [1] _ _ _ @g0 (fun _ _ _ _ _=>by kernel_rfl) (by
  intro _ _ _ _ _ _ _ h i k x y
  simp only [g0]
  with_reducible repeat (first|(apply J.lt; intro _)|apply J.rq|apply J.bif|exact h _ _|exact i _ (by decide) _ _|exact k (by decide) _ _))
theorem bW:fQ E0 D tab Tryz.f16.ntmps (codeOf Tryz.f16):=bT (bs:= [aG (codeOf Tryz.f16) 0]) (by kernel_rfl) (aF (bP (by kernel_rfl) (bV)) aO)
theorem ok:nA Tryz.f16=true:=by kernel_rfl
abbrev aS:List AS:= [.one (.val (.ref ak)),.one (.val (.sl (.arr 4 (.int .u64)))),.one (.val (.int .i64))]
abbrev bS:List Ty:= []
def F (x:ASs aS) (y:Bs bS):Brn Res:=brn (r x.1 x.2.1 x.2.2.1)
theorem good (x:ASs aS) (y:Bs bS) (h:(F x y).res.1=true):Good Tryz.prog 16 (ASs.mk aS x) (Bs.mk bS y) (F x y).res.2:=
 fP hE0 (ay _) Tryz.func16 ok bW cB (run x.1 x.2.1 x.2.2.1) (rel x.1 x.2.1 x.2.2.1) h
def ent:Ent Tryz.prog:=⟨16,shF aS bS F,bM good⟩
def ro:(Option af)→(List (List Int))→Int→Bool×X:=Classical.choose (⟨r,rfl⟩:∃ q:(Option af)→(List (List Int))→Int→Bool×X,q=r)
theorem gB:ro=r:=Classical.choose_spec (⟨r,rfl⟩:∃ q:(Option af)→(List (List Int))→Int→Bool×X,q=r)
def FO (x:ASs aS) (y:Bs bS):Brn Res:=brn (ro x.1 x.2.1 x.2.2.1)
theorem jN:FO=F:=by unfold FO F; rw [gB]
def nO:Ent Tryz.prog:=⟨16,shF aS bS FO,bM (by rw [jN]; exact good)⟩
end ig
namespace bZ
abbrev X:Type:=Bool
def res (x:Bool):Res:=⟨[.val ⟨.bool,x⟩],[],[]⟩
def brn (w:Bool×X):Brn Res:= .one w.1 (res w.2)
theorem cB (w:Bool×X):(brn w).res=(w.1,res w.2):=rfl
def g {Z:Type} (rq:Bool→Z→Z) (rt:X→Z) (gx:(Option af)) (c:(List (List Int))) (s:fC):Z:=
lt (ile 1 s.1) fun v1696=>
bif v1696 then
lt (ile s.1 7) fun v1697=>
bif v1697 then
lt (lm.r gx s.2.1) fun w1700=>
rq w1700.1<|
bif w1700.2 then
lt (gu.r gx c) fun w1718=>
rq w1718.1<|
bif w1718.2 then
lt (kY.r gx s.2.1) fun w1719=>
rq w1719.1<|
lt (ig.r gx c s.1) fun w1745=>
rq w1745.1<|
lt (ieq (w1719.2.getD 0 0) (w1745.2.getD 0 0)&&(ieq (w1719.2.getD 1 0) (w1745.2.getD 1 0)&&(ieq (w1719.2.getD 2 0) (w1745.2.getD 2 0)&&(ieq (w1719.2.getD 3 0) (w1745.2.getD 3 0)&&true)))) fun v1746=>
rt v1746
else
rt false
else
rt false
else
rt false
else
rt false
def r (gx:(Option af)) (c:(List (List Int))) (s:fC):Bool×X:=g chk (fun x=>(true,x)) gx c s
def D:aH:=Dof (P:=Tryz.prog) [lm.ent,gu.ent,kY.ent,ig.ent]
def tab:List (Nat×LE Res):= []
theorem run (gx:(Option af)) (c:(List (List Int))) (s:fC):gL E0 [true] D (iG E0 D tab 9) Tryz.f21 (codeOf Tryz.f21) [.val ⟨.ref ak,gx⟩,.val ⟨.sl (.arr 4 (.int .u64)),c⟩,.val ⟨iV,s⟩] []=g (fun c z=>req c z) (fun x=>some (res x)) gx c s:=by kernel_rfl
theorem rel (gx:(Option af)) (c:(List (List Int))) (s:fC):J (fun w z=>z=some (res w)) (g chk (fun x=>(true,x)) gx c s) (g (fun c z=>req c z) (fun x=>some (res x)) gx c s):=by
 unfold g
 with_reducible repeat (first|(apply J.lt; intro _)|apply J.rq|apply J.bif|exact J.rt rfl)
theorem ok:nA Tryz.f21=true:=by kernel_rfl
abbrev aS:List AS:= [.one (.val (.ref ak)),.one (.val (.sl (.arr 4 (.int .u64)))),.one (.val iV)]
abbrev bS:List Ty:= []
def F (x:ASs aS) (y:Bs bS):Brn Res:=brn (r x.1 x.2.1 x.2.2.1)
theorem good (x:ASs aS) (y:Bs bS) (h:(F x y).res.1=true):Good Tryz.prog 21 (ASs.mk aS x) (Bs.mk bS y) (F x y).res.2:=
 fP hE0 (ay _) Tryz.func21 ok aC cB (run x.1 x.2.1 x.2.2.1) (rel x.1 x.2.1 x.2.2.1) h
def ent:Ent Tryz.prog:=⟨21,shF aS bS F,bM good⟩
def ro:(Option af)→(List (List Int))→fC→Bool×X:=Classical.choose (⟨r,rfl⟩:∃ q:(Option af)→(List (List Int))→fC→Bool×X,q=r)
theorem gB:ro=r:=Classical.choose_spec (⟨r,rfl⟩:∃ q:(Option af)→(List (List Int))→fC→Bool×X,q=r)
def FO (x:ASs aS) (y:Bs bS):Brn Res:=brn (ro x.1 x.2.1 x.2.2.1)
theorem jN:FO=F:=by unfold FO F; rw [gB]
def nO:Ent Tryz.prog:=⟨21,shF aS bS FO,bM (by rw [jN]; exact good)⟩
end bZ
end Go.Own
