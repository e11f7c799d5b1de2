/- What functions compute, printed by wip/gen/gen2.py. -/
import Derived.Test.YtapkilfcibkphaaGreatG6
set_option linter.unusedVariables false
set_option linter.unusedSimpArgs false
set_option maxRecDepth 100000
noncomputable section
namespace Go.Own
open Go.Proofs Go.Proofs.YtapkilfcibkphaaGreat
namespace dL
abbrev X:Type:=Bool
def res (x:Bool):Res:=⟨[.val ⟨.bool,x⟩],[],[]⟩
def brn (w:Bool×X):Brn Res:= .one w.1 (res w.2)
theorem dA (w:Bool×X):(brn w).res=(w.1,res w.2):=rfl
def g {Z:Type} (rq:Bool→Z→Z) (rt:X→Z):Z:=
lt (dK.ro 0) fun w1165=>
rq w1165.1<|
lt (aW.ro 5) fun w1200=>
rq w1200.1<|
lt (aW.ro 2) fun w1201=>
rq w1201.1<|
lt (gq.ro w1165.2.1 [w1200.2,w1201.2] 3) fun w1242=>
rq w1242.1<|
lt (!w1165.2.2.2) fun (v1243:Bool)=>
bif v1243 then
rt false
else
lt (w1242.2.2 != 0) fun (v1244:Bool)=>
bif v1244 then
rt false
else
lt (aW.ro 7) fun w1245=>
rq w1245.1<|
lt (aW.ro 9) fun w1246=>
rq w1246.1<|
lt (aW.ro 11) fun w1247=>
rq w1247.1<|
lt (cK.ro w1242.2.1 [(1,(w1245.2,())),(2,(w1246.2,())),(3,(w1247.2,()))]) fun w1260=>
rq w1260.1<|
lt (!w1260.2) fun (v1261:Bool)=>
bif v1261 then
rt false
else
lt ((w1242.2.1.drop 1).take ((w1242.2.1.length:Int).toNat - 1)) fun (v1262:(List bQ))=>
rq (ile (1:Int) (w1242.2.1.length:Int)&&ile (w1242.2.1.length:Int) (w1242.2.1.length:Int))<|
lt (dO.ro w1165.2.1 1 v1262) fun w1579=>
bif Nat.beq w1579.2.1 0 then
rq w1579.1<|
lt (dO.ro w1165.2.1 0 w1242.2.1) fun w1580=>
bif Nat.beq w1580.2.1 0 then
rq w1580.1<|
lt (aW.ro 5) fun w1581=>
rq w1581.1<|
lt (aW.ro 2) fun w1582=>
rq w1582.1<|
lt (bL.ro [] [w1581.2,w1582.2]) fun w1595=>
rq w1595.1<|
bif w1595.2 then
lt (w1579.2.2.1== 0) fun (v1596:Bool)=>
bif v1596 then
lt (w1580.2.2.1== 4) fun (v1597:Bool)=>
rt v1597
else
rt false
else
rt false
else
rq w1580.1<|
lt (aW.ro 5) fun w1598=>
rq w1598.1<|
lt (aW.ro 2) fun w1599=>
rq w1599.1<|
lt (bL.ro [] [w1598.2,w1599.2]) fun w1600=>
rq w1600.1<|
bif w1600.2 then
lt (w1579.2.2.1== 0) fun (v1601:Bool)=>
bif v1601 then
lt (w1580.2.2.2.2.2.1== 4) fun (v1602:Bool)=>
rt v1602
else
rt false
else
rt false
else
rq w1579.1<|
lt (dO.ro w1165.2.1 0 w1242.2.1) fun w1603=>
bif Nat.beq w1603.2.1 0 then
rq w1603.1<|
lt (aW.ro 5) fun w1604=>
rq w1604.1<|
lt (aW.ro 2) fun w1605=>
rq w1605.1<|
lt (bL.ro ((w1579.2.2.2.2.2.2.2.drop w1579.2.2.2.1).take w1579.2.2.2.2.1) [w1604.2,w1605.2]) fun w1606=>
rq w1606.1<|
bif w1606.2 then
lt (w1579.2.2.2.2.2.1== 0) fun (v1607:Bool)=>
bif v1607 then
lt (w1603.2.2.1== 4) fun (v1608:Bool)=>
rt v1608
else
rt false
else
rt false
else
rq w1603.1<|
lt (aW.ro 5) fun w1609=>
rq w1609.1<|
lt (aW.ro 2) fun w1610=>
rq w1610.1<|
lt (bL.ro ((w1579.2.2.2.2.2.2.2.drop w1579.2.2.2.1).take w1579.2.2.2.2.1) [w1609.2,w1610.2]) fun w1611=>
rq w1611.1<|
bif w1611.2 then
lt (w1579.2.2.2.2.2.1== 0) fun (v1612:Bool)=>
bif v1612 then
lt (w1603.2.2.2.2.2.1== 4) fun (v1613:Bool)=>
rt v1613
else
rt false
else
rt false
def r:Bool×X:=g chk (fun x=>(true,x))
def D:aI:=Dof (P:=Tryz.prog) [dK.oC,aW.oC,gq.oC,cK.oC,dO.oC,bL.oC]
def tab:List (Nat×LE Res):= []
theorem run:iD E0 [true] D (iR E0 D tab 9) Tryz.f5 (codeOf Tryz.f5) [] []=g (fun c z=>req c z) (fun x=>some (res x)):=by kernel_rfl
theorem rel:J (fun w z=>z=some (res w)) (g chk (fun x=>(true,x))) (g (fun c z=>req c z) (fun x=>some (res x))):=by
 unfold g
 with_reducible repeat (first|(apply J.lt; intro _)|apply J.rq|apply J.bif|exact J.rt rfl)
theorem ok:oq Tryz.f5=true:=by kernel_rfl
abbrev aS:List AS:= []
abbrev bS:List Ty:= []
def F (_:ASs aS) (_:Bs bS):Brn Res:=brn r
theorem good (x:ASs aS) (y:Bs bS) (h:(F x y).res.1=true):Good Tryz.prog 5 (ASs.mk aS x) (Bs.mk bS y) (F x y).res.2:=
 fZ hE0 (ay _) Tryz.func5 ok aG dA (run) (rel) h
def ent:Ent Tryz.prog:=⟨5,shF aS bS F,bX good⟩
def ro:Bool×X:=Classical.choose (⟨r,rfl⟩:∃ q:Bool×X,q=r)
theorem gI:ro=r:=Classical.choose_spec (⟨r,rfl⟩:∃ q:Bool×X,q=r)
def FO (_:ASs aS) (_:Bs bS):Brn Res:=brn ro
theorem kR:FO=F:=by unfold FO F; rw [gI]
def oC:Ent Tryz.prog:=⟨5,shF aS bS FO,bX (by rw [kR]; exact good)⟩
end dL
namespace dQ
abbrev X:Type:=(List Int)
def res (x:(List Int)):Res:=⟨[.val ⟨.arr 32 (.int .i64),x⟩],[],[]⟩
abbrev sh0:List (Nat×Sh):= [(2,.pb 500000 (.arr 4 (.int .u64)) []),(3,.pb 500001 (.arr 4 (.int .u64)) []),(4,.pb 500002 (.arr 32 (.int .i64)) []),(5,.pb 500003 (.arr 32 (.int .i64)) []),(6,.p (.int .i64))]
abbrev bx0:List (Nat×Ty):= [(500000,.arr 4 (.int .u64)),(500001,.arr 4 (.int .u64)),(500002,.arr 32 (.int .i64)),(500003,.arr 32 (.int .i64))]
abbrev aZ:List (Nat×Ty):= [(500000,.arr 4 (.int .u64)),(500001,.arr 4 (.int .u64)),(500002,.arr 32 (.int .i64)),(500003,.arr 32 (.int .i64))]
abbrev aY:List (Nat×Sh):= []
abbrev bf:List (Nat×Ty):= []
abbrev bU:List (Nat×Ty):= []
abbrev X0:Type:=Unit×Unit×Unit×Unit×Int×Unit
abbrev Y0:Type:=(List Int)×(List Int)×(List Int)×(List Int)×Unit
abbrev U0:Type:=Unit
abbrev V0:Type:=Unit
def g0 {Z:Type} (rq:Bool→Z→Z) (kn:X0→Y0→Z) (ke:Nat→X0→Y0→Z) (kr:U0→V0→Z) (x:X0) (y:Y0):Z:=
lt (ilt x.2.2.2.2.1 16) fun v1721=>
bif v1721 then
lt (IntKind.i64.wrap (x.2.2.2.2.1.tdiv 4)) fun v1722=>
rq (ile (0:Int) v1722&&ilt v1722 4)<|
lt (y.1.getD v1722.toNat 0) fun (v1723:Int)=>
lt (x.2.2.2.2.1.tmod 4) fun (v1724:Int)=>
lt (IntKind.i64.wrap ((16:Int)*v1724)) fun v1725=>
lt (v1723.fdiv (2^(min v1725.toNat 64))) fun (v1726:Int)=>
rq (!ilt v1725 0)<|
lt (fw .u64 (· &&& ·) v1726 (65535:Int)) fun v1727=>
lt (IntKind.i64.wrap (v1727)) fun v1728=>
rq (ile (0:Int) x.2.2.2.2.1&&ilt x.2.2.2.2.1 32)<|
lt (y.2.2.2.1.set x.2.2.2.2.1.toNat v1728) fun (v1729:(List Int))=>
lt (IntKind.i64.wrap ((16:Int)+x.2.2.2.2.1)) fun v1730=>
lt (IntKind.i64.wrap (x.2.2.2.2.1.tdiv 4)) fun v1731=>
rq (ile (0:Int) v1731&&ilt v1731 4)<|
lt (y.2.1.getD v1731.toNat 0) fun (v1732:Int)=>
lt (x.2.2.2.2.1.tmod 4) fun (v1733:Int)=>
lt (IntKind.i64.wrap ((16:Int)*v1733)) fun v1734=>
lt (v1732.fdiv (2^(min v1734.toNat 64))) fun (v1735:Int)=>
rq (!ilt v1734 0)<|
lt (fw .u64 (· &&& ·) v1735 (65535:Int)) fun v1736=>
lt (IntKind.i64.wrap (v1736)) fun v1737=>
rq (ile (0:Int) v1730&&ilt v1730 32)<|
lt (v1729.set v1730.toNat v1737) fun (v1738:(List Int))=>
lt (IntKind.i64.wrap (x.2.2.2.2.1+1)) fun v1739=>
kn ((),(),(),(),v1739,()) (y.1,y.2.1,y.2.2.1,v1738,())
else
ke 0 ((),(),(),(),x.2.2.2.2.1,()) (y.1,y.2.1,y.2.2.1,y.2.2.2.1,())
def fu0 (x:X0) (y:Y0):Nat:=((16:Int) - x.2.2.2.2.1).toNat+1
def l0 (x:X0) (y:Y0):Bool×Nat×X0×Y0×U0×V0:=rounds (fun rq kn ke kr x y=>g0 rq kn ke kr x y) () () (fu0 x y) x y
def g {Z:Type} (rq:Bool→Z→Z) (rt:X→Z) (low:(List Int)) (high:(List Int)):Z:=
lt (List.replicate 32 0) fun (v1628:(List Int))=>
lt (List.replicate 32 0) fun (v1629:(List Int))=>
lt (List.replicate 32 0) fun (v1630:(List Int))=>
lt (dQ.l0 ((),(),(),(),0,()) (low,high,v1628,v1629,())) fun w1740=>
rq w1740.1<|
rt w1740.2.2.2.1.2.2.2.1
def r (low:(List Int)) (high:(List Int)):Bool×X:=g chk (fun x=>(true,x)) low high
def D:aI:=Dof (P:=Tryz.prog) []
abbrev lf0:=bY (R:=Res) [1] (rounds (fun rq kn ke kr x y=>g0 rq kn ke kr x y) () ()) fu0
def tab:List (Nat×LE Res):= [(4,.typed (eB 38 sh0 bx0 aZ aY bf (lf0)))]
theorem bR:Nonempty (Told E0 D tab Tryz.f50.ntmps (aF (codeOf Tryz.f50) 0) 38 sh0 bx0 aZ aY bf lf0):=eX (sh:=sh0) (bx:=bx0) (ord:=aZ) (shR:=aY) (bxR:=bf) bU (by kernel_rfl) (by kernel_rfl) (by kernel_rfl) [1] _ _ _ @g0 (fun _ _ _ _ _=>by kernel_rfl) (by
  intro _ _ _ _ _ _ _ h i k x y
  simp only [g0]
  with_reducible repeat (first|(apply J.lt; intro _)|apply J.rq|apply J.bif|exact h _ _|exact i _ (by decide) _ _|exact k (by decide) _ _))
theorem bT:fF E0 D tab Tryz.f50.ntmps (codeOf Tryz.f50):=bN (bs:= [aF (codeOf Tryz.f50) 0]) (by kernel_rfl) (aD (bI (by kernel_rfl) (bR)) aL)
abbrev aS:List AS:= [.one (.val (.arr 4 (.int .u64))),.one (.val (.arr 4 (.int .u64)))]
abbrev bS:List Ty:= []
def ent:Ent Tryz.prog:=bO (D:=D) (tab:=tab) hE0 (ay _) [true] Tryz.func50 (by kernel_rfl) bT aS bS res (fun x y=>r x.1 x.2.1) (fun x y=>g (fun c z=>req c z) (fun x=>some (res x)) x.1 x.2.1) (fun _ _=>by kernel_rfl) (by
 intro x y
 show J _ (g chk (fun x=>(true,x)) x.1 x.2.1) (g (fun c z=>req c z) (fun x=>some (res x)) x.1 x.2.1)
 unfold g
 with_reducible repeat (first|(apply J.lt; intro _)|apply J.rq|apply J.bif|exact J.rt rfl))
end dQ
namespace cZ
abbrev X:Type:=(List Int)
def res (x:(List Int)):Res:=⟨[.val ⟨.arr 32 (.int .i64),x⟩],[],[]⟩
abbrev sh0:List (Nat×Sh):= [(2,.pb 500000 (.arr 32 (.int .i64)) []),(4,.pb 500001 (.arr 32 (.int .i64)) []),(5,.pb 500002 (.arr 32 (.int .i64)) []),(6,.p (.int .i64)),(7,.p (.int .i64))]
abbrev bx0:List (Nat×Ty):= [(500000,.arr 32 (.int .i64)),(500001,.arr 32 (.int .i64)),(500002,.arr 32 (.int .i64))]
abbrev aZ:List (Nat×Ty):= [(500000,.arr 32 (.int .i64)),(500001,.arr 32 (.int .i64)),(500002,.arr 32 (.int .i64))]
abbrev aY:List (Nat×Sh):= []
abbrev bf:List (Nat×Ty):= []
abbrev bU:List (Nat×Ty):= []
abbrev X0:Type:=Unit×Unit×Unit×Int×Int×Unit
abbrev Y0:Type:=(List Int)×(List Int)×(List Int)×Unit
abbrev U0:Type:=Unit
abbrev V0:Type:=Unit
def g0 {Z:Type} (rq:Bool→Z→Z) (kn:X0→Y0→Z) (ke:Nat→X0→Y0→Z) (kr:U0→V0→Z) (x:X0) (y:Y0):Z:=
lt (ilt x.2.2.2.2.1 32) fun v1809=>
bif v1809 then
rq (ile (0:Int) x.2.2.2.2.1&&ilt x.2.2.2.2.1 32)<|
lt (y.1.getD x.2.2.2.2.1.toNat 0) fun (v1810:Int)=>
lt (IntKind.i64.wrap ((2:Int)*v1810)) fun v1811=>
lt (IntKind.i64.wrap (v1811+x.2.2.2.1)) fun v1812=>
lt (fw .i64 (· &&& ·) v1812 (65535:Int)) fun v1813=>
rq (ile (0:Int) x.2.2.2.2.1&&ilt x.2.2.2.2.1 32)<|
lt (y.2.2.1.set x.2.2.2.2.1.toNat v1813) fun (v1814:(List Int))=>
lt (v1812.fdiv (2^16)) fun (v1815:Int)=>
lt (IntKind.i64.wrap (x.2.2.2.2.1+1)) fun v1816=>
kn ((),(),(),v1815,v1816,()) (y.1,y.2.1,v1814,())
else
ke 0 ((),(),(),x.2.2.2.1,x.2.2.2.2.1,()) (y.1,y.2.1,y.2.2.1,())
def fu0 (x:X0) (y:Y0):Nat:=((32:Int) - x.2.2.2.2.1).toNat+1
def l0 (x:X0) (y:Y0):Bool×Nat×X0×Y0×U0×V0:=rounds (fun rq kn ke kr x y=>g0 rq kn ke kr x y) () () (fu0 x y) x y
def g {Z:Type} (rq:Bool→Z→Z) (rt:X→Z) (a:(List Int)) (one:Int):Z:=
lt (List.replicate 32 0) fun (v1752:(List Int))=>
lt (List.replicate 32 0) fun (v1753:(List Int))=>
lt (List.replicate 32 0) fun (v1754:(List Int))=>
lt (cZ.l0 ((),(),(),one,0,()) (a,v1752,v1753,())) fun w1817=>
rq w1817.1<|
rt w1817.2.2.2.1.2.2.1
def r (a:(List Int)) (one:Int):Bool×X:=g chk (fun x=>(true,x)) a one
def D:aI:=Dof (P:=Tryz.prog) []
abbrev lf0:=bY (R:=Res) [1] (rounds (fun rq kn ke kr x y=>g0 rq kn ke kr x y) () ()) fu0
def tab:List (Nat×LE Res):= [(5,.typed (eB 28 sh0 bx0 aZ aY bf (lf0)))]
theorem bR:Nonempty (Told E0 D tab Tryz.f81.ntmps (aF (codeOf Tryz.f81) 0) 28 sh0 bx0 aZ aY bf lf0):=eX (sh:=sh0) (bx:=bx0) (ord:=aZ) (shR:=aY) (bxR:=bf) bU (by kernel_rfl) (by kernel_rfl) (by kernel_rfl) [1] _ _ _ @g0 (fun _ _ _ _ _=>by kernel_rfl) (by
  intro _ _ _ _ _ _ _ h i k x y
  simp only [g0]
  with_reducible repeat (first|(apply J.lt; intro _)|apply J.rq|apply J.bif|exact h _ _|exact i _ (by decide) _ _|exact k (by decide) _ _))
theorem bT:fF E0 D tab Tryz.f81.ntmps (codeOf Tryz.f81):=bN (bs:= [aF (codeOf Tryz.f81) 0]) (by kernel_rfl) (aD (bI (by kernel_rfl) (bR)) aL)
abbrev aS:List AS:= [.one (.val (.arr 32 (.int .i64))),.one (.val (.int .i64))]
abbrev bS:List Ty:= []
def ent:Ent Tryz.prog:=bO (D:=D) (tab:=tab) hE0 (ay _) [true] Tryz.func81 (by kernel_rfl) bT aS bS res (fun x y=>r x.1 x.2.1) (fun x y=>g (fun c z=>req c z) (fun x=>some (res x)) x.1 x.2.1) (fun _ _=>by kernel_rfl) (by
 intro x y
 show J _ (g chk (fun x=>(true,x)) x.1 x.2.1) (g (fun c z=>req c z) (fun x=>some (res x)) x.1 x.2.1)
 unfold g
 with_reducible repeat (first|(apply J.lt; intro _)|apply J.rq|apply J.bif|exact J.rt rfl))
end cZ
namespace dJ
abbrev X:Type:=Bool
def res (x:Bool):Res:=⟨[.val ⟨.bool,x⟩],[],[]⟩
abbrev sh0:List (Nat×Sh):= [(2,.pb 500000 (.arr 32 (.int .i64)) []),(3,.pb 500001 (.arr 32 (.int .i64)) []),(4,.p .bool),(5,.p (.int .i64))]
abbrev bx0:List (Nat×Ty):= [(500000,.arr 32 (.int .i64)),(500001,.arr 32 (.int .i64))]
abbrev aZ:List (Nat×Ty):= [(500000,.arr 32 (.int .i64)),(500001,.arr 32 (.int .i64))]
abbrev aY:List (Nat×Sh):= [(4,.p .bool)]
abbrev bf:List (Nat×Ty):= []
abbrev bU:List (Nat×Ty):= []
abbrev X0:Type:=Unit×Unit×Bool×Int×Unit
abbrev Y0:Type:=(List Int)×(List Int)×Unit
abbrev U0:Type:=Bool×Unit
abbrev V0:Type:=Unit
def g0 {Z:Type} (rq:Bool→Z→Z) (kn:X0→Y0→Z) (ke:Nat→X0→Y0→Z) (kr:U0→V0→Z) (x:X0) (y:Y0):Z:=
lt (ile 0 x.2.2.2.1) fun v1873=>
bif v1873 then
rq (ile (0:Int) x.2.2.2.1&&ilt x.2.2.2.1 32)<|
lt (y.1.getD x.2.2.2.1.toNat 0) fun (v1874:Int)=>
rq (ile (0:Int) x.2.2.2.1&&ilt x.2.2.2.1 32)<|
lt (y.2.1.getD x.2.2.2.1.toNat 0) fun (v1875:Int)=>
lt (v1874 != v1875) fun (v1876:Bool)=>
bif v1876 then
rq (ile (0:Int) x.2.2.2.1&&ilt x.2.2.2.1 32)<|
lt (y.1.getD x.2.2.2.1.toNat 0) fun (v1877:Int)=>
rq (ile (0:Int) x.2.2.2.1&&ilt x.2.2.2.1 32)<|
lt (y.2.1.getD x.2.2.2.1.toNat 0) fun (v1878:Int)=>
lt (ilt v1877 v1878) fun v1879=>
kr (v1879,()) ()
else
lt (IntKind.i64.wrap (x.2.2.2.1 - 1)) fun v1880=>
kn ((),(),x.2.2.1,v1880,()) (y.1,y.2.1,())
else
ke 0 ((),(),x.2.2.1,x.2.2.2.1,()) (y.1,y.2.1,())
def fu0 (x:X0) (y:Y0):Nat:=(x.2.2.2.1 - (0:Int)+1).toNat+1
def l0 (x:X0) (y:Y0):Bool×Nat×X0×Y0×U0×V0:=rounds (fun rq kn ke kr x y=>g0 rq kn ke kr x y) (false,()) () (fu0 x y) x y
def g {Z:Type} (rq:Bool→Z→Z) (rt:X→Z) (a:(List Int)) (b:(List Int)):Z:=
lt (dJ.l0 ((),(),false,31,()) (a,b,())) fun w1881=>
rq w1881.1<|
bif Nat.beq w1881.2.1 0 then
rt w1881.2.2.2.2.1.1
else
rt false
def r (a:(List Int)) (b:(List Int)):Bool×X:=g chk (fun x=>(true,x)) a b
def D:aI:=Dof (P:=Tryz.prog) []
abbrev lf0:=bY (R:=Res) [0,1] (rounds (fun rq kn ke kr x y=>g0 rq kn ke kr x y) (false,()) ()) fu0
def tab:List (Nat×LE Res):= [(3,.typed (eB 24 sh0 bx0 aZ aY bf (lf0)))]
theorem bR:Nonempty (Told E0 D tab Tryz.f82.ntmps (aF (codeOf Tryz.f82) 0) 24 sh0 bx0 aZ aY bf lf0):=eX (sh:=sh0) (bx:=bx0) (ord:=aZ) (shR:=aY) (bxR:=bf) bU (by kernel_rfl) (by kernel_rfl) (by kernel_rfl) [0,1] _ _ _ @g0 (fun _ _ _ _ _=>by kernel_rfl) (by
  intro _ _ _ _ _ _ _ h i k x y
  simp only [g0]
  with_reducible repeat (first|(apply J.lt; intro _)|apply J.rq|apply J.bif|exact h _ _|exact i _ (by decide) _ _|exact k (by decide) _ _))
theorem bT:fF E0 D tab Tryz.f82.ntmps (codeOf Tryz.f82):=bN (bs:= [aF (codeOf Tryz.f82) 0]) (by kernel_rfl) (aD (bI (by kernel_rfl) (bR)) aL)
abbrev aS:List AS:= [.one (.val (.arr 32 (.int .i64))),.one (.val (.arr 32 (.int .i64)))]
abbrev bS:List Ty:= []
def ent:Ent Tryz.prog:=bO (D:=D) (tab:=tab) hE0 (ay _) [true] Tryz.func82 (by kernel_rfl) bT aS bS res (fun x y=>r x.1 x.2.1) (fun x y=>g (fun c z=>req c z) (fun x=>some (res x)) x.1 x.2.1) (fun _ _=>by kernel_rfl) (by
 intro x y
 show J _ (g chk (fun x=>(true,x)) x.1 x.2.1) (g (fun c z=>req c z) (fun x=>some (res x)) x.1 x.2.1)
 unfold g
 with_reducible repeat (first|(apply J.lt; intro _)|apply J.rq|apply J.bif|exact J.rt rfl))
end dJ
namespace dF
abbrev X:Type:=(List Int)
def res (x:(List Int)):Res:=⟨[.val ⟨.arr 32 (.int .i64),x⟩],[],[]⟩
abbrev sh0:List (Nat×Sh):= [(2,.pb 500000 (.arr 32 (.int .i64)) []),(3,.pb 500001 (.arr 32 (.int .i64)) []),(4,.pb 500002 (.arr 32 (.int .i64)) []),(5,.p (.int .i64)),(6,.pb 500003 (.arr 32 (.int .i64)) []),(7,.p (.int .i64))]
abbrev bx0:List (Nat×Ty):= [(500000,.arr 32 (.int .i64)),(500001,.arr 32 (.int .i64)),(500002,.arr 32 (.int .i64)),(500003,.arr 32 (.int .i64))]
abbrev aZ:List (Nat×Ty):= [(500000,.arr 32 (.int .i64)),(500001,.arr 32 (.int .i64)),(500002,.arr 32 (.int .i64)),(500003,.arr 32 (.int .i64))]
abbrev aY:List (Nat×Sh):= []
abbrev bf:List (Nat×Ty):= []
abbrev bU:List (Nat×Ty):= []
abbrev X0:Type:=Unit×Unit×Unit×Int×Unit×Int×Unit
abbrev Y0:Type:=(List Int)×(List Int)×(List Int)×(List Int)×Unit
abbrev U0:Type:=Unit
abbrev V0:Type:=Unit
def g0 {Z:Type} (rq:Bool→Z→Z) (kn:X0→Y0→Z) (ke:Nat→X0→Y0→Z) (kr:U0→V0→Z) (x:X0) (y:Y0):Z:=
lt (ilt x.2.2.2.2.2.1 32) fun v1950=>
bif v1950 then
rq (ile (0:Int) x.2.2.2.2.2.1&&ilt x.2.2.2.2.2.1 32)<|
lt (y.1.getD x.2.2.2.2.2.1.toNat 0) fun (v1951:Int)=>
rq (ile (0:Int) x.2.2.2.2.2.1&&ilt x.2.2.2.2.2.1 32)<|
lt (y.2.1.getD x.2.2.2.2.2.1.toNat 0) fun (v1952:Int)=>
lt (IntKind.i64.wrap (v1951 - v1952)) fun v1953=>
lt (IntKind.i64.wrap (v1953 - x.2.2.2.1)) fun v1954=>
lt (ilt v1954 0) fun v1955=>
bif v1955 then
lt (IntKind.i64.wrap (v1954+65536)) fun v1956=>
rq (ile (0:Int) x.2.2.2.2.2.1&&ilt x.2.2.2.2.2.1 32)<|
lt (y.2.2.2.1.set x.2.2.2.2.2.1.toNat v1956) fun (v1957:(List Int))=>
lt (IntKind.i64.wrap (x.2.2.2.2.2.1+1)) fun v1958=>
kn ((),(),(),1,(),v1958,()) (y.1,y.2.1,y.2.2.1,v1957,())
else
rq (ile (0:Int) x.2.2.2.2.2.1&&ilt x.2.2.2.2.2.1 32)<|
lt (y.2.2.2.1.set x.2.2.2.2.2.1.toNat v1954) fun (v1959:(List Int))=>
lt (IntKind.i64.wrap (x.2.2.2.2.2.1+1)) fun v1960=>
kn ((),(),(),0,(),v1960,()) (y.1,y.2.1,y.2.2.1,v1959,())
else
ke 0 ((),(),(),x.2.2.2.1,(),x.2.2.2.2.2.1,()) (y.1,y.2.1,y.2.2.1,y.2.2.2.1,())
def fu0 (x:X0) (y:Y0):Nat:=((32:Int) - x.2.2.2.2.2.1).toNat+1
def l0 (x:X0) (y:Y0):Bool×Nat×X0×Y0×U0×V0:=rounds (fun rq kn ke kr x y=>g0 rq kn ke kr x y) () () (fu0 x y) x y
def g {Z:Type} (rq:Bool→Z→Z) (rt:X→Z) (a:(List Int)) (b:(List Int)):Z:=
lt (List.replicate 32 0) fun (v1884:(List Int))=>
lt (List.replicate 32 0) fun (v1885:(List Int))=>
lt (List.replicate 32 0) fun (v1886:(List Int))=>
lt (dF.l0 ((),(),(),0,(),0,()) (a,b,v1884,v1885,())) fun w1961=>
rq w1961.1<|
rt w1961.2.2.2.1.2.2.2.1
def r (a:(List Int)) (b:(List Int)):Bool×X:=g chk (fun x=>(true,x)) a b
def D:aI:=Dof (P:=Tryz.prog) []
abbrev lf0:=bY (R:=Res) [1] (rounds (fun rq kn ke kr x y=>g0 rq kn ke kr x y) () ()) fu0
def tab:List (Nat×LE Res):= [(5,.typed (eB 31 sh0 bx0 aZ aY bf (lf0)))]
theorem bR:Nonempty (Told E0 D tab Tryz.f83.ntmps (aF (codeOf Tryz.f83) 0) 31 sh0 bx0 aZ aY bf lf0):=eX (sh:=sh0) (bx:=bx0) (ord:=aZ) (shR:=aY) (bxR:=bf) bU (by kernel_rfl) (by kernel_rfl) (by kernel_rfl) [1] _ _ _ @g0 (fun _ _ _ _ _=>by kernel_rfl) (by
  intro _ _ _ _ _ _ _ h i k x y
  simp only [g0]
  with_reducible repeat (first|(apply J.lt; intro _)|apply J.rq|apply J.bif|exact h _ _|exact i _ (by decide) _ _|exact k (by decide) _ _))
theorem bT:fF E0 D tab Tryz.f83.ntmps (codeOf Tryz.f83):=bN (bs:= [aF (codeOf Tryz.f83) 0]) (by kernel_rfl) (aD (bI (by kernel_rfl) (bR)) aL)
abbrev aS:List AS:= [.one (.val (.arr 32 (.int .i64))),.one (.val (.arr 32 (.int .i64)))]
abbrev bS:List Ty:= []
def ent:Ent Tryz.prog:=bO (D:=D) (tab:=tab) hE0 (ay _) [true] Tryz.func83 (by kernel_rfl) bT aS bS res (fun x y=>r x.1 x.2.1) (fun x y=>g (fun c z=>req c z) (fun x=>some (res x)) x.1 x.2.1) (fun _ _=>by kernel_rfl) (by
 intro x y
 show J _ (g chk (fun x=>(true,x)) x.1 x.2.1) (g (fun c z=>req c z) (fun x=>some (res x)) x.1 x.2.1)
 unfold g
 with_reducible repeat (first|(apply J.lt; intro _)|apply J.rq|apply J.bif|exact J.rt rfl))
end dF
namespace aR
abbrev X:Type:=(List Int)×(List Int)
def res (x:(List Int)×(List Int)):Res:=⟨[.val ⟨.arr 32 (.int .i64),x.1⟩,.val ⟨.arr 32 (.int .i64),x.2⟩],[],[]⟩
abbrev sh0:List (Nat×Sh):= [(2,.pb 500000 (.arr 32 (.int .i64)) []),(3,.pb 500001 (.arr 32 (.int .i64)) []),(4,.pb 500002 (.arr 32 (.int .i64)) []),(5,.pb 500003 (.arr 32 (.int .i64)) []),(6,.pb 500004 (.arr 32 (.int .i64)) []),(7,.pb 500005 (.arr 32 (.int .i64)) []),(8,.p (.int .i64))]
abbrev bx0:List (Nat×Ty):= [(500000,.arr 32 (.int .i64)),(500001,.arr 32 (.int .i64)),(500002,.arr 32 (.int .i64)),(500003,.arr 32 (.int .i64)),(500004,.arr 32 (.int .i64)),(500005,.arr 32 (.int .i64))]
abbrev aZ:List (Nat×Ty):= [(500000,.arr 32 (.int .i64)),(500001,.arr 32 (.int .i64)),(500002,.arr 32 (.int .i64)),(500003,.arr 32 (.int .i64)),(500004,.arr 32 (.int .i64)),(500005,.arr 32 (.int .i64))]
abbrev aY:List (Nat×Sh):= []
abbrev bf:List (Nat×Ty):= []
abbrev bU:List (Nat×Ty):= []
abbrev X0:Type:=Unit×Unit×Unit×Unit×Unit×Unit×Int×Unit
abbrev Y0:Type:=(List Int)×(List Int)×(List Int)×(List Int)×(List Int)×(List Int)×Unit
abbrev U0:Type:=Unit
abbrev V0:Type:=Unit
def g0 {Z:Type} (rq:Bool→Z→Z) (kn:X0→Y0→Z) (ke:Nat→X0→Y0→Z) (kr:U0→V0→Z) (x:X0) (y:Y0):Z:=
lt (ile 0 x.2.2.2.2.2.2.1) fun v2046=>
bif v2046 then
lt (IntKind.i64.wrap (x.2.2.2.2.2.2.1.tdiv 16)) fun v2047=>
rq (ile (0:Int) v2047&&ilt v2047 32)<|
lt (y.1.getD v2047.toNat 0) fun (v2048:Int)=>
lt (x.2.2.2.2.2.2.1.tmod 16) fun (v2049:Int)=>
lt (v2048.fdiv (2^(min v2049.toNat 64))) fun (v2050:Int)=>
rq (!ilt v2049 0)<|
lt (fw .i64 (· &&& ·) v2050 (1:Int)) fun v2051=>
lt (cZ.r y.2.2.2.2.2.1 v2051) fun w2052=>
rq w2052.1<|
lt (dJ.r w2052.2 y.2.1) fun w2053=>
rq w2053.1<|
lt (!w2053.2) fun (v2054:Bool)=>
bif v2054 then
lt (dF.r w2052.2 y.2.1) fun w2055=>
rq w2055.1<|
lt (IntKind.i64.wrap (x.2.2.2.2.2.2.1.tdiv 16)) fun v2056=>
lt (IntKind.i64.wrap (x.2.2.2.2.2.2.1.tdiv 16)) fun v2057=>
rq (ile (0:Int) v2057&&ilt v2057 32)<|
lt (y.2.2.2.2.1.getD v2057.toNat 0) fun (v2058:Int)=>
lt (x.2.2.2.2.2.2.1.tmod 16) fun (v2059:Int)=>
lt (IntKind.i64.wrap ((1:Int)*2^(min v2059.toNat 64))) fun v2060=>
rq (!ilt v2059 0)<|
lt (fw .i64 (· ||| ·) v2058 v2060) fun v2061=>
rq (ile (0:Int) v2056&&ilt v2056 32)<|
lt (y.2.2.2.2.1.set v2056.toNat v2061) fun (v2062:(List Int))=>
lt (IntKind.i64.wrap (x.2.2.2.2.2.2.1 - 1)) fun v2063=>
kn ((),(),(),(),(),(),v2063,()) (y.1,y.2.1,y.2.2.1,y.2.2.2.1,v2062,w2055.2,())
else
lt (IntKind.i64.wrap (x.2.2.2.2.2.2.1 - 1)) fun v2064=>
kn ((),(),(),(),(),(),v2064,()) (y.1,y.2.1,y.2.2.1,y.2.2.2.1,y.2.2.2.2.1,w2052.2,())
else
ke 0 ((),(),(),(),(),(),x.2.2.2.2.2.2.1,()) (y.1,y.2.1,y.2.2.1,y.2.2.2.1,y.2.2.2.2.1,y.2.2.2.2.2.1,())
def fu0 (x:X0) (y:Y0):Nat:=(x.2.2.2.2.2.2.1 - (0:Int)+1).toNat+1
def l0 (x:X0) (y:Y0):Bool×Nat×X0×Y0×U0×V0:=rounds (fun rq kn ke kr x y=>g0 rq kn ke kr x y) () () (fu0 x y) x y
def g {Z:Type} (rq:Bool→Z→Z) (rt:X→Z) (a:(List Int)) (m:(List Int)):Z:=
lt (List.replicate 32 0) fun (v1743:(List Int))=>
lt (List.replicate 32 0) fun (v1744:(List Int))=>
lt (List.replicate 32 0) fun (v1745:(List Int))=>
lt (List.replicate 32 0) fun (v1746:(List Int))=>
lt (List.replicate 32 0) fun (v1747:(List Int))=>
lt (List.replicate 32 0) fun (v1748:(List Int))=>
lt (aR.l0 ((),(),(),(),(),(),511,()) (a,m,v1743,v1744,v1745,v1746,())) fun w2065=>
rq w2065.1<|
rt (w2065.2.2.2.1.2.2.2.2.1,w2065.2.2.2.1.2.2.2.2.2.1)
def r (a:(List Int)) (m:(List Int)):Bool×X:=g chk (fun x=>(true,x)) a m
def D:aI:=Dof (P:=Tryz.prog) [cZ.ent,dJ.ent,dF.ent]
abbrev lf0:=bY (R:=Res) [1] (rounds (fun rq kn ke kr x y=>g0 rq kn ke kr x y) () ()) fu0
def tab:List (Nat×LE Res):= [(4,.typed (eB 45 sh0 bx0 aZ aY bf (lf0)))]
theorem bR:Nonempty (Told E0 D tab Tryz.f49.ntmps (aF (codeOf Tryz.f49) 0) 45 sh0 bx0 aZ aY bf lf0):=eX (sh:=sh0) (bx:=bx0) (ord:=aZ) (shR:=aY) (bxR:=bf) bU (by kernel_rfl) (by kernel_rfl) (by kernel_rfl) [1] _ _ _ @g0 (fun _ _ _ _ _=>by kernel_rfl) (by
  intro _ _ _ _ _ _ _ h i k x y
  simp only [g0]
  with_reducible repeat (first|(apply J.lt; intro _)|apply J.rq|apply J.bif|exact h _ _|exact i _ (by decide) _ _|exact k (by decide) _ _))
theorem bT:fF E0 D tab Tryz.f49.ntmps (codeOf Tryz.f49):=bN (bs:= [aF (codeOf Tryz.f49) 0]) (by kernel_rfl) (aD (bI (by kernel_rfl) (bR)) aL)
abbrev aS:List AS:= [.one (.val (.arr 32 (.int .i64))),.one (.val (.arr 32 (.int .i64)))]
abbrev bS:List Ty:= []
def ent:Ent Tryz.prog:=bO (D:=D) (tab:=tab) hE0 (ay _) [true,true] Tryz.func49 (by kernel_rfl) bT aS bS res (fun x y=>r x.1 x.2.1) (fun x y=>g (fun c z=>req c z) (fun x=>some (res x)) x.1 x.2.1) (fun _ _=>by kernel_rfl) (by
 intro x y
 show J _ (g chk (fun x=>(true,x)) x.1 x.2.1) (g (fun c z=>req c z) (fun x=>some (res x)) x.1 x.2.1)
 unfold g
 with_reducible repeat (first|(apply J.lt; intro _)|apply J.rq|apply J.bif|exact J.rt rfl))
end aR
namespace dG
abbrev X:Type:=(List Int)×(List Int)
def res (x:(List Int)×(List Int)):Res:=⟨[.val ⟨.arr 4 (.int .u64),x.1⟩,.val ⟨.arr 4 (.int .u64),x.2⟩],[],[]⟩
abbrev sh0:List (Nat×Sh):= [(1,.pb 500000 (.arr 32 (.int .i64)) []),(2,.pb 500001 (.arr 4 (.int .u64)) []),(3,.pb 500002 (.arr 4 (.int .u64)) []),(4,.pb 500003 (.arr 4 (.int .u64)) []),(5,.pb 500004 (.arr 4 (.int .u64)) []),(6,.p (.int .i64))]
abbrev bx0:List (Nat×Ty):= [(500000,.arr 32 (.int .i64)),(500001,.arr 4 (.int .u64)),(500002,.arr 4 (.int .u64)),(500003,.arr 4 (.int .u64)),(500004,.arr 4 (.int .u64))]
abbrev aZ:List (Nat×Ty):= [(500000,.arr 32 (.int .i64)),(500001,.arr 4 (.int .u64)),(500002,.arr 4 (.int .u64)),(500003,.arr 4 (.int .u64)),(500004,.arr 4 (.int .u64))]
abbrev aY:List (Nat×Sh):= []
abbrev bf:List (Nat×Ty):= []
abbrev bU:List (Nat×Ty):= []
abbrev X0:Type:=Unit×Unit×Unit×Unit×Unit×Int×Unit
abbrev Y0:Type:=(List Int)×(List Int)×(List Int)×(List Int)×(List Int)×Unit
abbrev U0:Type:=Unit
abbrev V0:Type:=Unit
def g0 {Z:Type} (rq:Bool→Z→Z) (kn:X0→Y0→Z) (ke:Nat→X0→Y0→Z) (kr:U0→V0→Z) (x:X0) (y:Y0):Z:=
lt (ilt x.2.2.2.2.2.1 16) fun v2141=>
bif v2141 then
lt (IntKind.i64.wrap (x.2.2.2.2.2.1.tdiv 4)) fun v2142=>
lt (IntKind.i64.wrap (x.2.2.2.2.2.1.tdiv 4)) fun v2143=>
rq (ile (0:Int) v2143&&ilt v2143 4)<|
lt (y.2.2.2.1.getD v2143.toNat 0) fun (v2144:Int)=>
rq (ile (0:Int) x.2.2.2.2.2.1&&ilt x.2.2.2.2.2.1 32)<|
lt (y.1.getD x.2.2.2.2.2.1.toNat 0) fun (v2145:Int)=>
lt (IntKind.u64.wrap (v2145)) fun v2146=>
lt (x.2.2.2.2.2.1.tmod 4) fun (v2147:Int)=>
lt (IntKind.i64.wrap ((16:Int)*v2147)) fun v2148=>
lt (IntKind.u64.wrap (v2146*2^(min v2148.toNat 64))) fun v2149=>
rq (!ilt v2148 0)<|
lt (fw .u64 (· ||| ·) v2144 v2149) fun v2150=>
rq (ile (0:Int) v2142&&ilt v2142 4)<|
lt (y.2.2.2.1.set v2142.toNat v2150) fun (v2151:(List Int))=>
lt (IntKind.i64.wrap (x.2.2.2.2.2.1.tdiv 4)) fun v2152=>
lt (IntKind.i64.wrap (x.2.2.2.2.2.1.tdiv 4)) fun v2153=>
rq (ile (0:Int) v2153&&ilt v2153 4)<|
lt (y.2.2.2.2.1.getD v2153.toNat 0) fun (v2154:Int)=>
lt (IntKind.i64.wrap ((16:Int)+x.2.2.2.2.2.1)) fun v2155=>
rq (ile (0:Int) v2155&&ilt v2155 32)<|
lt (y.1.getD v2155.toNat 0) fun (v2156:Int)=>
lt (IntKind.u64.wrap (v2156)) fun v2157=>
lt (x.2.2.2.2.2.1.tmod 4) fun (v2158:Int)=>
lt (IntKind.i64.wrap ((16:Int)*v2158)) fun v2159=>
lt (IntKind.u64.wrap (v2157*2^(min v2159.toNat 64))) fun v2160=>
rq (!ilt v2159 0)<|
lt (fw .u64 (· ||| ·) v2154 v2160) fun v2161=>
rq (ile (0:Int) v2152&&ilt v2152 4)<|
lt (y.2.2.2.2.1.set v2152.toNat v2161) fun (v2162:(List Int))=>
lt (IntKind.i64.wrap (x.2.2.2.2.2.1+1)) fun v2163=>
kn ((),(),(),(),(),v2163,()) (y.1,y.2.1,y.2.2.1,v2151,v2162,())
else
ke 0 ((),(),(),(),(),x.2.2.2.2.2.1,()) (y.1,y.2.1,y.2.2.1,y.2.2.2.1,y.2.2.2.2.1,())
def fu0 (x:X0) (y:Y0):Nat:=TP (((16:Int) - x.2.2.2.2.2.1).toNat+1)
def l0 (x:X0) (y:Y0):Bool×Nat×X0×Y0×U0×V0:=rounds (fun rq kn ke kr x y=>g0 rq kn ke kr x y) () () (fu0 x y) x y
def g {Z:Type} (rq:Bool→Z→Z) (rt:X→Z) (d:(List Int)):Z:=
lt (dG.l0 ((),(),(),(),(),0,()) (d,[0,0,0,0],[0,0,0,0],[0,0,0,0],[0,0,0,0],())) fun w2164=>
rq w2164.1<|
rt (w2164.2.2.2.1.2.2.2.1,w2164.2.2.2.1.2.2.2.2.1)
def r (d:(List Int)):Bool×X:=g chk (fun x=>(true,x)) d
def D:aI:=Dof (P:=Tryz.prog) []
abbrev lf0:=bY (R:=Res) [1] (rounds (fun rq kn ke kr x y=>g0 rq kn ke kr x y) () ()) fu0
def tab:List (Nat×LE Res):= [(4,.typed (eB 48 sh0 bx0 aZ aY bf (lf0)))]
theorem bR:Nonempty (Told E0 D tab Tryz.f51.ntmps (aF (codeOf Tryz.f51) 0) 48 sh0 bx0 aZ aY bf lf0):=eX (sh:=sh0) (bx:=bx0) (ord:=aZ) (shR:=aY) (bxR:=bf) bU (by kernel_rfl) (by kernel_rfl) (by kernel_rfl) [1] _ _ _ @g0 (fun _ _ _ _ _=>by kernel_rfl) (by
  intro _ _ _ _ _ _ _ h i k x y
  simp only [g0]
  with_reducible repeat (first|(apply J.lt; intro _)|apply J.rq|apply J.bif|exact h _ _|exact i _ (by decide) _ _|exact k (by decide) _ _))
theorem bT:fF E0 D tab Tryz.f51.ntmps (codeOf Tryz.f51):=bN (bs:= [aF (codeOf Tryz.f51) 0]) (by kernel_rfl) (aD (bI (by kernel_rfl) (bR)) aL)
abbrev aS:List AS:= [.one (.val (.arr 32 (.int .i64)))]
abbrev bS:List Ty:= []
def ent:Ent Tryz.prog:=bO (D:=D) (tab:=tab) hE0 (ay _) [true,true] Tryz.func51 (by kernel_rfl) bT aS bS res (fun x y=>r x.1) (fun x y=>g (fun c z=>req c z) (fun x=>some (res x)) x.1) (fun _ _=>by kernel_rfl) (by
 intro x y
 show J _ (g chk (fun x=>(true,x)) x.1) (g (fun c z=>req c z) (fun x=>some (res x)) x.1)
 unfold g
 with_reducible repeat (first|(apply J.lt; intro _)|apply J.rq|apply J.bif|exact J.rt rfl))
end dG
namespace iT
abbrev X:Type:=(List Int)×Int
def res (x:(List Int)×Int):Res:=⟨[.val ⟨.arr 4 (.int .u64),x.1⟩,.val ⟨.int .i64,x.2⟩],[],[]⟩
def g {Z:Type} (rq:Bool→Z→Z) (rt:X→Z) (low:(List Int)) (high:(List Int)) (m:(List Int)):Z:=
lt (ieq (m.getD 0 0) 0&&(ieq (m.getD 1 0) 0&&(ieq (m.getD 2 0) 0&&(ieq (m.getD 3 0) 0&&true)))) fun v1627=>
bif v1627 then
rt ([0,0,0,0],1)
else
lt (dQ.r low high) fun w1741=>
rq w1741.1<|
lt (dQ.r m [0,0,0,0]) fun w1742=>
rq w1742.1<|
lt (aR.r w1741.2 w1742.2) fun w2066=>
rq w2066.1<|
lt (List.replicate 32 0) fun (v2067:(List Int))=>
lt (List.replicate 32 0) fun (v2068:(List Int))=>
lt (dG.r w2066.2.2) fun w2165=>
rq w2165.1<|
rt (w2165.2.1,0)
def r (low:(List Int)) (high:(List Int)) (m:(List Int)):Bool×X:=g chk (fun x=>(true,x)) low high m
def D:aI:=Dof (P:=Tryz.prog) [dQ.ent,aR.ent,dG.ent]
def tab:List (Nat×LE Res):= []
abbrev aS:List AS:= [.one (.val (.arr 4 (.int .u64))),.one (.val (.arr 4 (.int .u64))),.one (.val (.arr 4 (.int .u64)))]
abbrev bS:List Ty:= []
def ent:Ent Tryz.prog:=bO (D:=D) (tab:=tab) hE0 (ay _) [true,true] Tryz.func27 (by kernel_rfl) aG aS bS res (fun x y=>r x.1 x.2.1 x.2.2.1) (fun x y=>g (fun c z=>req c z) (fun x=>some (res x)) x.1 x.2.1 x.2.2.1) (fun _ _=>by kernel_rfl) (by
 intro x y
 show J _ (g chk (fun x=>(true,x)) x.1 x.2.1 x.2.2.1) (g (fun c z=>req c z) (fun x=>some (res x)) x.1 x.2.1 x.2.2.1)
 unfold g
 with_reducible repeat (first|(apply J.lt; intro _)|apply J.rq|apply J.bif|exact J.rt rfl))
end iT
namespace iG
abbrev X:Type:=Int
def res (x:Int):Res:=⟨[.val ⟨.int .i64,x⟩],[],[]⟩
def g {Z:Type} (rq:Bool→Z→Z) (rt:X→Z) (a:(List Int)) (qx:Int):Z:=
lt (aX.r qx) fun w1626=>
rq w1626.1<|
lt (iT.r a [0,0,0,0] w1626.2) fun w2166=>
rq w2166.1<|
lt (bM.r w2166.2.1) fun w2167=>
rq w2167.1<|
rt w2167.2.1
def r (a:(List Int)) (qx:Int):Bool×X:=g chk (fun x=>(true,x)) a qx
def D:aI:=Dof (P:=Tryz.prog) [aX.ent,iT.ent,bM.ent]
def tab:List (Nat×LE Res):= []
abbrev aS:List AS:= [.one (.val (.arr 4 (.int .u64))),.one (.val (.int .i64))]
abbrev bS:List Ty:= []
def ent:Ent Tryz.prog:=bO (D:=D) (tab:=tab) hE0 (ay _) [false] Tryz.func8 (by kernel_rfl) aG aS bS res (fun x y=>r x.1 x.2.1) (fun x y=>g (fun c z=>req c z) (fun x=>some (res x)) x.1 x.2.1) (fun _ _=>by kernel_rfl) (by
 intro x y
 show J _ (g chk (fun x=>(true,x)) x.1 x.2.1) (g (fun c z=>req c z) (fun x=>some (res x)) x.1 x.2.1)
 unfold g
 with_reducible repeat (first|(apply J.lt; intro _)|apply J.rq|apply J.bif|exact J.rt rfl))
end iG
namespace bF
def E1:Env:=E0.pooled [(40,999001)] [(999001,.arr 4 (.int .u64))]
theorem hE1:eG Tryz.prog E1:=⟨hE0.ty,hE0.bytes,hE0.mixed,hE0.depth,hE0.lev,hE0.uns,hE0.up⟩
abbrev X:Type:=(List (List (List Int)))×Int
def res (x:(List (List (List Int)))×Int):Res:=⟨[.val ⟨.sl (.sl (.arr 4 (.int .u64))),x.1⟩,.val ⟨.int .i64,x.2⟩],[],[]⟩
abbrev sh2:List (Nat×Sh):= [(0,.p (.ref au)),(1,.p (.sl (.int .i64))),(4,.nil),(5,.p (.int .i64)),(6,.va 502000 (.arr 4 (.int .u64))),(9,.va 502001 (.sl (.arr 4 (.int .u64)))),(48,.p (.int .i64)),(49,.p (.int .i64)),(76,.va 502002 (.arr 4 (.int .u64))),(77,.p (.int .i64)),(78,.p (.int .i64))]
abbrev bx2:List (Nat×Ty):= [(502000,.dyn (.arr 4 (.int .u64))),(502001,.dyn (.rid 999001 (.arr 4 (.int .u64)))),(502002,.dyn (.arr 4 (.int .u64))),(999001,.pool (.arr 4 (.int .u64)))]
abbrev Jc:List (Nat×Ty):= [(502000,.dyn (.arr 4 (.int .u64))),(502001,.dyn (.rid 999001 (.arr 4 (.int .u64)))),(502002,.dyn (.arr 4 (.int .u64))),(999001,.pool (.arr 4 (.int .u64)))]
abbrev I4:List (Nat×Sh):= []
abbrev JX:List (Nat×Ty):= []
abbrev Og:List (Nat×Ty):= []
abbrev X2:Type:=(Option aj)×(List Int)×Unit×Int×Unit×Unit×Int×Int×Unit×Int×Int×Unit
abbrev Y2:Type:=(Bool×List (List Int))×(Bool×List Nat)×(Bool×List (List Int))×(List (Nat×List (List Int)))×Unit
abbrev U2:Type:=Unit
abbrev V2:Type:=Unit
def g2 {Z:Type} (rq:Bool→Z→Z) (kn:X2→Y2→Z) (ke:Nat→X2→Y2→Z) (kr:U2→V2→Z) (x:X2) (y:Y2):Z:=
lt (ilt x.2.2.2.2.2.2.2.2.2.2.1 x.2.2.2.2.2.2.2.2.2.1) fun v2226=>
bif v2226 then
rq (ile (0:Int) x.2.2.2.2.2.2.2.2.2.2.1&&ilt x.2.2.2.2.2.2.2.2.2.2.1 (y.2.2.1.2.length:Int))<|
lt (y.2.2.1.2.getD x.2.2.2.2.2.2.2.2.2.2.1.toNat [0,0,0,0]) fun (v2227:(List Int))=>
rq (ile (0:Int) x.2.2.2.2.2.2.2.2.2.2.1&&ilt x.2.2.2.2.2.2.2.2.2.2.1 (y.2.1.2.length:Int))<|
lt (y.2.1.2.getD x.2.2.2.2.2.2.2.2.2.2.1.toNat 0) fun (v2228:Nat)=>
lt ((y.2.2.2.1.set v2228 ((bif Nat.beq (y.2.2.2.1.getD v2228 (0,[])).1 3 then 3 else 2),(y.2.2.2.1.getD v2228 (0,[])).2))++ [(1,((y.2.2.2.1.getD v2228 (0,[])).2++ [v2227]))]) fun (v2229:(List (Nat×List (List Int))))=>
rq ((!Nat.beq (y.2.2.2.1.getD v2228 (0,[])).1 2)&&nle ((2*((y.2.2.2.1.getD v2228 (0,[])).2.length+1)+512)*32) 70368744177664)<|
rq (ile (0:Int) x.2.2.2.2.2.2.2.2.2.2.1&&ilt x.2.2.2.2.2.2.2.2.2.2.1 (y.2.1.2.length:Int))<|
lt (y.2.1.2.set x.2.2.2.2.2.2.2.2.2.2.1.toNat y.2.2.2.1.length) fun (v2230:(List Nat))=>
lt (IntKind.i64.wrap (x.2.2.2.2.2.2.2.2.2.2.1+1)) fun v2231=>
kn (x.1,x.2.1,(),x.2.2.2.1,(),(),x.2.2.2.2.2.2.1,x.2.2.2.2.2.2.2.1,(),x.2.2.2.2.2.2.2.2.2.1,v2231,()) (y.1,(y.2.1.1,v2230),y.2.2.1,v2229,())
else
ke 4 (x.1,x.2.1,(),x.2.2.2.1,(),(),x.2.2.2.2.2.2.1,x.2.2.2.2.2.2.2.1,(),x.2.2.2.2.2.2.2.2.2.1,x.2.2.2.2.2.2.2.2.2.2.1,()) (y.1,y.2.1,y.2.2.1,y.2.2.2.1,())
def fu2 (x:X2) (y:Y2):Nat:=(x.2.2.2.2.2.2.2.2.2.1 - x.2.2.2.2.2.2.2.2.2.2.1).toNat+1
def l2 (x:X2) (y:Y2):Bool×Nat×X2×Y2×U2×V2:=rounds (fun rq kn ke kr x y=>g2 rq kn ke kr x y) () () (fu2 x y) x y
abbrev sh1:List (Nat×Sh):= [(0,.p (.ref au)),(1,.p (.sl (.int .i64))),(4,.nil),(5,.p (.int .i64)),(6,.va 501000 (.arr 4 (.int .u64))),(9,.va 501001 (.sl (.arr 4 (.int .u64)))),(48,.p (.int .i64)),(49,.p (.int .i64))]
abbrev bx1:List (Nat×Ty):= [(501000,.dyn (.arr 4 (.int .u64))),(501001,.dyn (.rid 999001 (.arr 4 (.int .u64)))),(999001,.pool (.arr 4 (.int .u64)))]
abbrev kI:List (Nat×Ty):= [(501000,.dyn (.arr 4 (.int .u64))),(501001,.dyn (.rid 999001 (.arr 4 (.int .u64)))),(999001,.pool (.arr 4 (.int .u64)))]
abbrev kH:List (Nat×Sh):= [(4,.nil),(5,.p (.int .i64))]
abbrev kN:List (Nat×Ty):= [(999001,.pool (.arr 4 (.int .u64)))]
abbrev nZ:List (Nat×Ty):= [(999001,.pool (.arr 4 (.int .u64)))]
abbrev X1:Type:=(Option aj)×(List Int)×Unit×Int×Unit×Unit×Int×Int×Unit
abbrev Y1:Type:=(Bool×List (List Int))×(Bool×List Nat)×(List (Nat×List (List Int)))×Unit
abbrev U1:Type:=Unit×Int×Unit
abbrev V1:Type:=(List (Nat×List (List Int)))×Unit
def g1 {Z:Type} (rq:Bool→Z→Z) (kn:X1→Y1→Z) (ke:Nat→X1→Y1→Z) (kr:U1→V1→Z) (x:X1) (y:Y1):Z:=
lt (ilt x.2.2.2.2.2.2.2.1 x.2.2.2.2.2.2.1) fun v2213=>
bif v2213 then
lt (x.2.1.length:Int) fun (v2214:Int)=>
lt (List.replicate v2214.toNat [0,0,0,0]) fun (v2215:(List (List Int)))=>
rq ((ile (0:Int) v2214&&ile v2214 v2214)&&ile (v2214*((32:Nat):Int)) 70368744177664)<|
lt (dY.r 1) fun w2216=>
rq w2216.1<|
rq (ile (0:Int) x.2.2.2.2.2.2.2.1&&ilt x.2.2.2.2.2.2.2.1 (v2215.length:Int))<|
lt (v2215.set x.2.2.2.2.2.2.2.1.toNat w2216.2) fun (v2217:(List (List Int)))=>
lt (fU.r x.1 y.1.2 v2217) fun w2218=>
bif Nat.beq w2218.2.1 0 then
rq w2218.1<|
lt (w2218.2.2.1 != 0) fun (v2219:Bool)=>
bif v2219 then
kr ((),w2218.2.2.1,()) (y.2.2.1,())
else
lt (x.2.1.length:Int) fun (v2220:Int)=>
lt (IntKind.i64.wrap (v2220 - 0)) fun v2221=>
lt ((List.replicate v2221.toNat ([0,0,0,0]:(List Int))).isEmpty) fun (v2222:Bool)=>
lt (List.replicate v2221.toNat ([0,0,0,0]:(List Int))) fun (v2223:(List (List Int)))=>
rq (ile (0:Int) v2221&&nle ((2*(0+(List.replicate v2221.toNat ([0,0,0,0]:(List Int))).length)+512)*32) 70368744177664)<|
lt (v2223.length:Int) fun (v2224:Int)=>
lt (bF.l2 (x.1,x.2.1,(),x.2.2.2.1,(),(),x.2.2.2.2.2.2.1,x.2.2.2.2.2.2.2.1,(),v2224,0,()) (y.1,y.2.1,(v2222,v2223),y.2.2.1,())) fun w2232=>
rq w2232.1<|
lt (IntKind.i64.wrap (w2232.2.2.1.2.2.2.2.2.2.2.1+1)) fun v2233=>
kn (w2232.2.2.1.1,w2232.2.2.1.2.1,(),w2232.2.2.1.2.2.2.1,(),(),w2232.2.2.1.2.2.2.2.2.2.1,v2233,()) (w2232.2.2.2.1.1,w2232.2.2.2.1.2.1,w2232.2.2.2.1.2.2.2.1,())
else
rq w2218.1<|
lt (w2218.2.2.2.2.2.1 != 0) fun (v2234:Bool)=>
bif v2234 then
kr ((),w2218.2.2.2.2.2.1,()) (y.2.2.1,())
else
lt (x.2.1.length:Int) fun (v2235:Int)=>
lt ((w2218.2.2.2.2.1:Nat):Int) fun (v2236:Int)=>
lt (IntKind.i64.wrap (v2235 - v2236)) fun v2237=>
lt ((w2218.2.2.2.2.2.2.1&&neq w2218.2.2.2.2.1 0)&&(List.replicate v2237.toNat ([0,0,0,0]:(List Int))).isEmpty) fun (v2238:Bool)=>
lt (((w2218.2.2.2.2.2.2.2.drop w2218.2.2.2.1).take w2218.2.2.2.2.1)++(List.replicate v2237.toNat ([0,0,0,0]:(List Int)))) fun (v2239:(List (List Int)))=>
rq (ile (0:Int) v2237&&nle ((2*(((w2218.2.2.2.2.2.2.2.drop w2218.2.2.2.1).take w2218.2.2.2.2.1).length+(List.replicate v2237.toNat ([0,0,0,0]:(List Int))).length)+512)*32) 70368744177664)<|
lt (v2239.length:Int) fun (v2240:Int)=>
lt (bF.l2 (x.1,x.2.1,(),x.2.2.2.1,(),(),x.2.2.2.2.2.2.1,x.2.2.2.2.2.2.2.1,(),v2240,0,()) (y.1,y.2.1,(v2238,v2239),y.2.2.1,())) fun w2241=>
rq w2241.1<|
lt (IntKind.i64.wrap (w2241.2.2.1.2.2.2.2.2.2.2.1+1)) fun v2242=>
kn (w2241.2.2.1.1,w2241.2.2.1.2.1,(),w2241.2.2.1.2.2.2.1,(),(),w2241.2.2.1.2.2.2.2.2.2.1,v2242,()) (w2241.2.2.2.1.1,w2241.2.2.2.1.2.1,w2241.2.2.2.1.2.2.2.1,())
else
ke 2 (x.1,x.2.1,(),x.2.2.2.1,(),(),x.2.2.2.2.2.2.1,x.2.2.2.2.2.2.2.1,()) (y.1,y.2.1,y.2.2.1,())
def fu1 (x:X1) (y:Y1):Nat:=(x.2.2.2.2.2.2.1 - x.2.2.2.2.2.2.2.1).toNat+1
def l1 (x:X1) (y:Y1):Bool×Nat×X1×Y1×U1×V1:=rounds (fun rq kn ke kr x y=>g1 rq kn ke kr x y) ((),0,()) ([],()) (fu1 x y) x y
abbrev sh0:List (Nat×Sh):= [(0,.p (.ref au)),(1,.p (.sl (.int .i64))),(4,.nil),(5,.p (.int .i64)),(6,.va 500000 (.arr 4 (.int .u64))),(32,.p (.sl (.int .i64))),(33,.p (.int .i64)),(34,.p (.int .i64))]
abbrev bx0:List (Nat×Ty):= [(500000,.dyn (.arr 4 (.int .u64))),(999001,.pool (.arr 4 (.int .u64)))]
abbrev aZ:List (Nat×Ty):= [(500000,.dyn (.arr 4 (.int .u64))),(999001,.pool (.arr 4 (.int .u64)))]
abbrev aY:List (Nat×Sh):= []
abbrev bf:List (Nat×Ty):= []
abbrev bU:List (Nat×Ty):= []
abbrev X0:Type:=(Option aj)×(List Int)×Unit×Int×Unit×(List Int)×Int×Int×Unit
abbrev Y0:Type:=(Bool×List (List Int))×(List (Nat×List (List Int)))×Unit
abbrev U0:Type:=Unit
abbrev V0:Type:=Unit
def g0 {Z:Type} (rq:Bool→Z→Z) (kn:X0→Y0→Z) (ke:Nat→X0→Y0→Z) (kr:U0→V0→Z) (x:X0) (y:Y0):Z:=
lt (ilt x.2.2.2.2.2.2.2.1 x.2.2.2.2.2.2.1) fun v2201=>
bif v2201 then
lt (x.2.2.2.2.2.1.getD x.2.2.2.2.2.2.2.1.toNat 0) fun (v2202:Int)=>
rq (ile (0:Int) x.2.2.2.2.2.2.2.1&&ilt x.2.2.2.2.2.2.2.1 (x.2.2.2.2.2.1.length:Int))<|
lt (dY.r v2202) fun w2203=>
rq w2203.1<|
lt (y.1.1&&false) fun (v2204:Bool)=>
lt (y.1.2++ [w2203.2]) fun (v2205:(List (List Int)))=>
rq (nle ((2*(y.1.2.length+1)+512)*32) 70368744177664)<|
lt (IntKind.i64.wrap (x.2.2.2.2.2.2.2.1+1)) fun v2206=>
kn (x.1,x.2.1,(),x.2.2.2.1,(),x.2.2.2.2.2.1,x.2.2.2.2.2.2.1,v2206,()) ((v2204,v2205),y.2.1,())
else
ke 0 (x.1,x.2.1,(),x.2.2.2.1,(),x.2.2.2.2.2.1,x.2.2.2.2.2.2.1,x.2.2.2.2.2.2.2.1,()) (y.1,y.2.1,())
def fu0 (x:X0) (y:Y0):Nat:=(x.2.2.2.2.2.2.1 - x.2.2.2.2.2.2.2.1).toNat+1
def l0 (x:X0) (y:Y0):Bool×Nat×X0×Y0×U0×V0:=rounds (fun rq kn ke kr x y=>g0 rq kn ke kr x y) () () (fu0 x y) x y
def g {Z:Type} (rq:Bool→Z→Z) (rt:X→Z) (gx:(Option aj)) (xs:(List Int)):Z:=
lt (bH.r gx) fun w2195=>
rq w2195.1<|
bif w2195.2.isNone then
rt ([],1)
else
lt (xs.length:Int) fun (v2196:Int)=>
lt (ilt 8 v2196) fun v2197=>
bif v2197 then
rt ([],1)
else
lt (gB.r xs 0) fun w2198=>
rq w2198.1<|
bif w2198.2 then
rt ([],1)
else
lt (iO.r xs) fun w2199=>
rq w2199.1<|
bif w2199.2 then
rt ([],1)
else
lt (xs.length:Int) fun (v2200:Int)=>
lt (bF.l0 (gx,xs,(),0,(),xs,v2200,0,()) ((true,[]),[],())) fun w2207=>
rq w2207.1<|
lt (w2207.2.2.1.2.1.length:Int) fun (v2208:Int)=>
lt (w2207.2.2.2.1.2.1++ [(3,[])]) fun (v2209:(List (Nat×List (List Int))))=>
lt (List.replicate v2208.toNat w2207.2.2.2.1.2.1.length) fun (v2210:(List Nat))=>
rq ((ile (0:Int) v2208&&ile v2208 v2208)&&ile (v2208*((24:Nat):Int)) 70368744177664)<|
lt (w2207.2.2.1.2.1.length:Int) fun (v2211:Int)=>
lt (bF.l1 (w2207.2.2.1.1,w2207.2.2.1.2.1,(),w2207.2.2.1.2.2.2.1,(),(),v2211,0,()) (w2207.2.2.2.1.1,(false,v2210),v2209,())) fun w2243=>
rq w2243.1<|
bif Nat.beq w2243.2.1 0 then
rt ([],w2243.2.2.2.2.1.2.1)
else
rt ((w2243.2.2.2.1.2.1.2.map fun r_=>(w2243.2.2.2.1.2.2.1.getD r_ (0,[])).2),0)
def r (gx:(Option aj)) (xs:(List Int)):Bool×X:=g chk (fun x=>(true,x)) gx xs
def D:aI:=Dof (P:=Tryz.prog) [bH.ent,gB.ent,iO.ent,dY.ent,fU.ent]
abbrev lf2:=bY (R:=Res) [5] (rounds (fun rq kn ke kr x y=>g2 rq kn ke kr x y) () ()) fu2
abbrev lf1:=bY (R:=Res) [0,3] (rounds (fun rq kn ke kr x y=>g1 rq kn ke kr x y) ((),0,()) ([],())) fu1
abbrev lf0:=bY (R:=Res) [1] (rounds (fun rq kn ke kr x y=>g0 rq kn ke kr x y) () ()) fu0
def tab:List (Nat×LE Res):= [(21,.typed (eB 96 sh2 bx2 Jc I4 JX (lf2))),(12,.typed (eB 96 sh1 bx1 kI kH kN (lf1))),(6,.typed (eB 96 sh0 bx0 aZ aY bf (lf0)))]
theorem Nq:Nonempty (Told E1 D tab Tryz.f10.ntmps (aF (codeOf Tryz.f10) 2) 96 sh2 bx2 Jc I4 JX lf2):=eX (sh:=sh2) (bx:=bx2) (ord:=Jc) (shR:=I4) (bxR:=JX) Og (by kernel_rfl) (by kernel_rfl) (by kernel_rfl) [5] _ _ _ @g2 (fun _ _ _ _ _=>by kernel_rfl) (by
  intro _ _ _ _ _ _ _ h i k x y
  simp only [g2]
  with_reducible repeat (first|(apply J.lt; intro _)|apply J.rq|apply J.bif|exact h _ _|exact i _ (by decide) _ _|exact k (by decide) _ _))
theorem nW:Nonempty (Told E1 D tab Tryz.f10.ntmps (aF (codeOf Tryz.f10) 1) 96 sh1 bx1 kI kH kN lf1):=eX (sh:=sh1) (bx:=bx1) (ord:=kI) (shR:=kH) (bxR:=kN) nZ (by kernel_rfl) (by kernel_rfl) (by kernel_rfl) [0,3] _ _ _ @g1 (fun _ _ _ _ _=>by kernel_rfl) (by
  intro _ _ _ _ _ _ _ h i k x y
  simp only [g1]
  with_reducible repeat (first|(apply J.lt; intro _)|apply J.rq|apply J.bif|exact h _ _|exact i _ (by decide) _ _|exact k (by decide) _ _))
theorem bR:Nonempty (Told E1 D tab Tryz.f10.ntmps (aF (codeOf Tryz.f10) 0) 96 sh0 bx0 aZ aY bf lf0):=eX (sh:=sh0) (bx:=bx0) (ord:=aZ) (shR:=aY) (bxR:=bf) bU (by kernel_rfl) (by kernel_rfl) (by kernel_rfl) [1] _ _ _ @g0 (fun _ _ _ _ _=>by kernel_rfl) (by
  intro _ _ _ _ _ _ _ h i k x y
  simp only [g0]
  with_reducible repeat (first|(apply J.lt; intro _)|apply J.rq|apply J.bif|exact h _ _|exact i _ (by decide) _ _|exact k (by decide) _ _))
theorem bT:fF E1 D tab Tryz.f10.ntmps (codeOf Tryz.f10):=bN (bs:= [aF (codeOf Tryz.f10) 0,aF (codeOf Tryz.f10) 1,aF (codeOf Tryz.f10) 2]) (by kernel_rfl) (aD (bI (by kernel_rfl) (bR)) (aD (bI (by kernel_rfl) (nW)) (aD (bI (by kernel_rfl) (Nq)) aL)))
abbrev aS:List AS:= [.one (.val (.ref au)),.one (.val (.sl (.int .i64)))]
abbrev bS:List Ty:= []
def ent:Ent Tryz.prog:=bO (D:=D) (tab:=tab) hE1 (ay _) [true,true] Tryz.func10 (by kernel_rfl) bT aS bS res (fun x y=>r x.1 x.2.1) (fun x y=>g (fun c z=>req c z) (fun x=>some (res x)) x.1 x.2.1) (fun _ _=>by kernel_rfl) (by
 intro x y
 show J _ (g chk (fun x=>(true,x)) x.1 x.2.1) (g (fun c z=>req c z) (fun x=>some (res x)) x.1 x.2.1)
 unfold g
 with_reducible repeat (first|(apply J.lt; intro _)|apply J.rq|apply J.bif|exact J.rt rfl))
end bF
namespace d9
abbrev X:Type:=Int
def res (x:Int):Res:=⟨[.val ⟨.int .i64,x⟩],[],[]⟩
def brn (w:Bool×X):Brn Res:= .one w.1 (res w.2)
theorem dA (w:Bool×X):(brn w).res=(w.1,res w.2):=rfl
def g {Z:Type} (rq:Bool→Z→Z) (rt:X→Z) (a:Int) (b:Int) (m:Int):Z:=
lt (a.tmod m) fun (v2271:Int)=>
rq (!ieq m 0)<|
lt (IntKind.u64.wrap (v2271)) fun v2272=>
lt (b.tmod m) fun (v2273:Int)=>
rq (!ieq m 0)<|
lt (IntKind.u64.wrap (v2273)) fun v2274=>
lt (iH.r v2272 v2274) fun w2275=>
rq w2275.1<|
lt (IntKind.u64.wrap (m)) fun v2276=>
lt (fq.r w2275.2.1 w2275.2.2 v2276) fun w2277=>
rq w2277.1<|
lt (IntKind.i64.wrap (w2277.2.2)) fun v2278=>
rt v2278
def r (a:Int) (b:Int) (m:Int):Bool×X:=g chk (fun x=>(true,x)) a b m
def D:aI:=Dof (P:=Tryz.prog) [iH.ent,fq.ent]
def tab:List (Nat×LE Res):= []
theorem run (a:Int) (b:Int) (m:Int):iD E0 [true] D (iR E0 D tab 9) Tryz.f34 (codeOf Tryz.f34) [.val ⟨.int .i64,a⟩,.val ⟨.int .i64,b⟩,.val ⟨.int .i64,m⟩] []=g (fun c z=>req c z) (fun x=>some (res x)) a b m:=by kernel_rfl
theorem rel (a:Int) (b:Int) (m:Int):J (fun w z=>z=some (res w)) (g chk (fun x=>(true,x)) a b m) (g (fun c z=>req c z) (fun x=>some (res x)) a b m):=by
 unfold g
 with_reducible repeat (first|(apply J.lt; intro _)|apply J.rq|apply J.bif|exact J.rt rfl)
theorem ok:oq Tryz.f34=true:=by kernel_rfl
abbrev aS:List AS:= [.one (.val (.int .i64)),.one (.val (.int .i64)),.one (.val (.int .i64))]
abbrev bS:List Ty:= []
def F (x:ASs aS) (y:Bs bS):Brn Res:=brn (r x.1 x.2.1 x.2.2.1)
theorem good (x:ASs aS) (y:Bs bS) (h:(F x y).res.1=true):Good Tryz.prog 34 (ASs.mk aS x) (Bs.mk bS y) (F x y).res.2:=
 fZ hE0 (ay _) Tryz.func34 ok aG dA (run x.1 x.2.1 x.2.2.1) (rel x.1 x.2.1 x.2.2.1) h
def ent:Ent Tryz.prog:=⟨34,shF aS bS F,bX good⟩
def ro:Int→Int→Int→Bool×X:=Classical.choose (⟨r,rfl⟩:∃ q:Int→Int→Int→Bool×X,q=r)
theorem gI:ro=r:=Classical.choose_spec (⟨r,rfl⟩:∃ q:Int→Int→Int→Bool×X,q=r)
def FO (x:ASs aS) (y:Bs bS):Brn Res:=brn (ro x.1 x.2.1 x.2.2.1)
theorem kR:FO=F:=by unfold FO F; rw [gI]
def oC:Ent Tryz.prog:=⟨34,shF aS bS FO,bX (by rw [kR]; exact good)⟩
end d9
namespace bG
abbrev X:Type:=Int
def res (x:Int):Res:=⟨[.val ⟨.int .i64,x⟩],[],[]⟩
def brn (w:Bool×X):Brn Res:= .one w.1 (res w.2)
theorem dA (w:Bool×X):(brn w).res=(w.1,res w.2):=rfl
def g {Z:Type} (rq:Bool→Z→Z) (rt:X→Z) (a:Int) (b:Int) (qx:Int):Z:=
lt (d9.r a b qx) fun w2279=>
rq w2279.1<|
rt w2279.2
def r (a:Int) (b:Int) (qx:Int):Bool×X:=g chk (fun x=>(true,x)) a b qx
def D:aI:=Dof (P:=Tryz.prog) [d9.ent]
def tab:List (Nat×LE Res):= []
theorem run (a:Int) (b:Int) (qx:Int):iD E0 [true] D (iR E0 D tab 9) Tryz.f12 (codeOf Tryz.f12) [.val ⟨.int .i64,a⟩,.val ⟨.int .i64,b⟩,.val ⟨.int .i64,qx⟩] []=g (fun c z=>req c z) (fun x=>some (res x)) a b qx:=by kernel_rfl
theorem rel (a:Int) (b:Int) (qx:Int):J (fun w z=>z=some (res w)) (g chk (fun x=>(true,x)) a b qx) (g (fun c z=>req c z) (fun x=>some (res x)) a b qx):=by
 unfold g
 with_reducible repeat (first|(apply J.lt; intro _)|apply J.rq|apply J.bif|exact J.rt rfl)
theorem ok:oq Tryz.f12=true:=by kernel_rfl
abbrev aS:List AS:= [.one (.val (.int .i64)),.one (.val (.int .i64)),.one (.val (.int .i64))]
abbrev bS:List Ty:= []
def F (x:ASs aS) (y:Bs bS):Brn Res:=brn (r x.1 x.2.1 x.2.2.1)
theorem good (x:ASs aS) (y:Bs bS) (h:(F x y).res.1=true):Good Tryz.prog 12 (ASs.mk aS x) (Bs.mk bS y) (F x y).res.2:=
 fZ hE0 (ay _) Tryz.func12 ok aG dA (run x.1 x.2.1 x.2.2.1) (rel x.1 x.2.1 x.2.2.1) h
def ent:Ent Tryz.prog:=⟨12,shF aS bS F,bX good⟩
def ro:Int→Int→Int→Bool×X:=Classical.choose (⟨r,rfl⟩:∃ q:Int→Int→Int→Bool×X,q=r)
theorem gI:ro=r:=Classical.choose_spec (⟨r,rfl⟩:∃ q:Int→Int→Int→Bool×X,q=r)
def FO (x:ASs aS) (y:Bs bS):Brn Res:=brn (ro x.1 x.2.1 x.2.2.1)
theorem kR:FO=F:=by unfold FO F; rw [gI]
def oC:Ent Tryz.prog:=⟨12,shF aS bS FO,bX (by rw [kR]; exact good)⟩
end bG
namespace dU
abbrev X:Type:=Int
def res (x:Int):Res:=⟨[.val ⟨.int .i64,x⟩],[],[]⟩
def g {Z:Type} (rq:Bool→Z→Z) (rt:X→Z) (a:Int) (b:Int) (qx:Int):Z:=
lt (IntKind.i64.wrap (a+b)) fun v2281=>
lt (v2281.tmod qx) fun (v2282:Int)=>
rq (!ieq qx 0)<|
rt v2282
def r (a:Int) (b:Int) (qx:Int):Bool×X:=g chk (fun x=>(true,x)) a b qx
def D:aI:=Dof (P:=Tryz.prog) []
def tab:List (Nat×LE Res):= []
abbrev aS:List AS:= [.one (.val (.int .i64)),.one (.val (.int .i64)),.one (.val (.int .i64))]
abbrev bS:List Ty:= []
def ent:Ent Tryz.prog:=bO (D:=D) (tab:=tab) hE0 (ay _) [true] Tryz.func11 (by kernel_rfl) aG aS bS res (fun x y=>r x.1 x.2.1 x.2.2.1) (fun x y=>g (fun c z=>req c z) (fun x=>some (res x)) x.1 x.2.1 x.2.2.1) (fun _ _=>by kernel_rfl) (by
 intro x y
 show J _ (g chk (fun x=>(true,x)) x.1 x.2.1 x.2.2.1) (g (fun c z=>req c z) (fun x=>some (res x)) x.1 x.2.1 x.2.2.1)
 unfold g
 with_reducible repeat (first|(apply J.lt; intro _)|apply J.rq|apply J.bif|exact J.rt rfl))
end dU
end Go.Own
