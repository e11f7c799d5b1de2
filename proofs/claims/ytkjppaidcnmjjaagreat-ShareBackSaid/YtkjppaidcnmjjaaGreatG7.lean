/- What functions compute, printed by wip/gen/gen2.py. -/
import Derived.Test.YtkjppaidcnmjjaaGreatG6
set_option linter.unusedVariables false
set_option linter.unusedSimpArgs false
namespace Go.Own
open Go.Proofs Go.Proofs.YtkjppaidcnmjjaaGreat
namespace jY
abbrev X:Type:=(List Int)×(Option ai)×(List (List Int))×Int×(List Int)
noncomputable def res (x:(List Int)×(Option ai)×(List (List Int))×Int×(List Int)):Res:=⟨[.val ⟨.arr 4 (.int .u64),x.1⟩],[some ⟨.ref au,x.2.1⟩,some ⟨.sl (.arr 4 (.int .u64)),x.2.2.1⟩,some ⟨.int .i64,x.2.2.2.1⟩,some ⟨.arr 4 (.int .u64),x.2.2.2.2⟩],[]⟩
noncomputable def brn (w:Bool×X):Brn Res:= .one w.1 (res w.2)
theorem aj (w:Bool×X):(brn w).res=(w.1,res w.2):=rfl
noncomputable def g {Z:Type} (rq:Bool→Z→Z) (rt:X→Z) (kx:Int) (b:(Option ai)) (bx:(List (List Int))) (bx1:Int) (bx11:(List Int)):Z:=
lt (IntKind.i64.wrap (kx - bx1)) fun v1408=>
lt (mO.r bx v1408) fun w1413=>
rq w1413.1<|
lt (iH.r b w1413.2 bx11) fun w1414=>
rq w1414.1<|
rt (w1414.2,b,bx,bx1,bx11)
noncomputable def r (kx:Int) (b:(Option ai)) (bx:(List (List Int))) (bx1:Int) (bx11:(List Int)):Bool×X:=g chk (fun x=>(true,x)) kx b bx bx1 bx11
noncomputable def D:aP:=Dof (P:=Tryz.prog) [mO.ent,iH.ent]
noncomputable def tab:List (Nat×LE Res):= []
set_option maxRecDepth 100000 in
theorem run (kx:Int) (b:(Option ai)) (bx:(List (List Int))) (bx1:Int) (bx11:(List Int)):aQ E0 [true] D (aJ E0 D tab 9) Tryz.f89 (codeOf Tryz.f89) [.val ⟨.int .i64,kx⟩,.pb 1000000 (.ref au) [],.pb 1000001 (.sl (.arr 4 (.int .u64))) [],.pb 1000002 (.int .i64) [],.pb 1000003 (.arr 4 (.int .u64)) []] [⟨.ref au,b⟩,⟨.sl (.arr 4 (.int .u64)),bx⟩,⟨.int .i64,bx1⟩,⟨.arr 4 (.int .u64),bx11⟩]=g (fun c z=>req c z) (fun x=>some (res x)) kx b bx bx1 bx11:=by kernel_rfl
theorem rel (kx:Int) (b:(Option ai)) (bx:(List (List Int))) (bx1:Int) (bx11:(List Int)):J (fun w z=>z=some (res w)) (g chk (fun x=>(true,x)) kx b bx bx1 bx11) (g (fun c z=>req c z) (fun x=>some (res x)) kx b bx bx1 bx11):=by
 unfold g
 with_reducible repeat (first|(apply J.lt; intro _)|apply J.rq|apply J.bif|exact J.rt rfl)
theorem ok:dD Tryz.f89=true:=by kernel_rfl
abbrev aS:List AS:= [.one (.val (.int .i64)),.one (.pb 1000000 (.ref au) []),.one (.pb 1000001 (.sl (.arr 4 (.int .u64))) []),.one (.pb 1000002 (.int .i64) []),.one (.pb 1000003 (.arr 4 (.int .u64)) [])]
abbrev bS:List Ty:= [.ref au,.sl (.arr 4 (.int .u64)),.int .i64,.arr 4 (.int .u64)]
noncomputable def F (x:ASs aS) (y:Bs bS):Brn Res:=brn (r x.1 y.1 y.2.1 y.2.2.1 y.2.2.2.1)
theorem good (x:ASs aS) (y:Bs bS) (h:(F x y).res.1=true):Good Tryz.prog 89 (ASs.mk aS x) (Bs.mk bS y) (F x y).res.2:=
 aF hE0 (aA _) Tryz.func89 ok aO aj (run x.1 y.1 y.2.1 y.2.2.1 y.2.2.2.1) (rel x.1 y.1 y.2.1 y.2.2.1 y.2.2.2.1) h
noncomputable def ent:Ent Tryz.prog:=⟨89,shF aS bS F,aB good⟩
end jY
namespace fB
abbrev X:Type:=Nat×(Unit)×(Nat×Nat×(Bool×List (List Int)))
noncomputable def pu (x:Unit):Res:=⟨[.nil],[],[]⟩
noncomputable def pq (x:Nat×Nat×(Bool×List (List Int))):Res:=⟨[.vs 1000000 (.arr 4 (.int .u64)) [] x.1 x.2.1],[],[⟨.dyn (.arr 4 (.int .u64)),x.2.2⟩]⟩
noncomputable def res (x:X):Res:=bif Nat.beq x.1 0 then pu x.2.1 else (pq x.2.2)
noncomputable def brn (w:Bool×X):Brn Res:= .ite (Nat.beq w.2.1 0) (.one w.1 (pu w.2.2.1)) (.one w.1 (pq w.2.2.2))
theorem aj (w:Bool×X):(brn w).res=(w.1,res w.2):=by
 cases h0:Nat.beq w.2.1 0 with
 |true=>simp only [brn,res,Brn.res,h0,cond_true,cond_false]
 |false=>
  simp only [brn,res,Brn.res,h0,cond_true,cond_false]
abbrev sh1:List (Nat×Sh):= [(4,.nil),(5,.vs 501000 (.arr 4 (.int .u64)) [])]
abbrev bx1:List (Nat×Ty):= [(501000,.dyn (.arr 4 (.int .u64)))]
abbrev ow:List (Nat×Ty):= [(501000,.dyn (.arr 4 (.int .u64)))]
abbrev mg:List (Nat×Sh):= []
abbrev mH:List (Nat×Ty):= []
abbrev qo:List (Nat×Ty):= []
abbrev X1:Type:=Unit×(Nat×Nat)×Unit
abbrev Y1:Type:=(Bool×List (List Int))×Unit
abbrev U1:Type:=Unit
abbrev V1:Type:=Unit
noncomputable def g1 {Z:Type} (rq:Bool→Z→Z) (kn:X1→Y1→Z) (ke:Nat→X1→Y1→Z) (kr:U1→V1→Z) (x:X1) (y:Y1):Z:=
lt ((x.2.1.2:Nat):Int) fun (v1462:Int)=>
lt (ilt 0 v1462) fun v1463=>
bif v1463 then
lt ((x.2.1.2:Nat):Int) fun (v1464:Int)=>
lt (IntKind.i64.wrap (v1464 - 1)) fun v1465=>
lt ((x.2.1.1+v1465.toNat)) fun (n1466:Nat)=>
rq (ile (0:Int) v1465&&ilt v1465 ((x.2.1.2:Nat):Int))<|
lt (y.1.2.getD n1466 [0,0,0,0]) fun (v1467:(List Int))=>
lt (lW.r v1467) fun w1468=>
rq w1468.1<|
bif w1468.2 then
lt ((x.2.1.2:Nat):Int) fun (v1469:Int)=>
lt (IntKind.i64.wrap (v1469 - 1)) fun v1470=>
rq (ile (0:Int) v1470&&ile v1470 ((x.2.1.2:Nat):Int))<|
kn ((),(x.2.1.1,v1470.toNat),()) (y.1,())
else
ke 2 ((),(x.2.1.1,x.2.1.2),()) (y.1,())
else
ke 2 ((),(x.2.1.1,x.2.1.2),()) (y.1,())
noncomputable def fu1 (x:X1) (y:Y1):Nat:=(((x.2.1.2:Nat):Int) - (0:Int)).toNat+1
noncomputable def l1 (x:X1) (y:Y1):Bool×Nat×X1×Y1×U1×V1:=rounds (fun rq kn ke kr x y=>g1 rq kn ke kr x y) () () (fu1 x y) x y
abbrev sh0:List (Nat×Sh):= [(0,.p (.ref au)),(4,.nil),(5,.va 500000 (.arr 4 (.int .u64))),(11,.p (.sl (.arr 4 (.int .u64)))),(12,.p (.int .i64)),(13,.p (.int .i64))]
abbrev bx0:List (Nat×Ty):= [(500000,.dyn (.arr 4 (.int .u64)))]
abbrev aW:List (Nat×Ty):= [(500000,.dyn (.arr 4 (.int .u64)))]
abbrev aM:List (Nat×Sh):= []
abbrev aN:List (Nat×Ty):= []
abbrev bC:List (Nat×Ty):= []
abbrev X0:Type:=(Option ai)×Unit×Unit×(List (List Int))×Int×Int×Unit
abbrev Y0:Type:=(Bool×List (List Int))×Unit
abbrev U0:Type:=Unit
abbrev V0:Type:=Unit
noncomputable def g0 {Z:Type} (rq:Bool→Z→Z) (kn:X0→Y0→Z) (ke:Nat→X0→Y0→Z) (kr:U0→V0→Z) (x:X0) (y:Y0):Z:=
lt (ilt x.2.2.2.2.2.1 x.2.2.2.2.1) fun v1455=>
bif v1455 then
lt (x.2.2.2.1.getD x.2.2.2.2.2.1.toNat [0,0,0,0]) fun (v1456:(List Int))=>
rq (ile (0:Int) x.2.2.2.2.2.1&&ilt x.2.2.2.2.2.1 (x.2.2.2.1.length:Int))<|
lt (iI.r x.1 v1456 [0,0,0,0]) fun w1457=>
rq w1457.1<|
lt (y.1.1&&false) fun (v1458:Bool)=>
lt (y.1.2++ [w1457.2]) fun (v1459:(List (List Int)))=>
rq (nle ((2*(y.1.2.length+1)+512)*32) 70368744177664)<|
lt (IntKind.i64.wrap (x.2.2.2.2.2.1+1)) fun v1460=>
kn (x.1,(),(),x.2.2.2.1,x.2.2.2.2.1,v1460,()) ((v1458,v1459),())
else
ke 0 (x.1,(),(),x.2.2.2.1,x.2.2.2.2.1,x.2.2.2.2.2.1,()) (y.1,())
noncomputable def fu0 (x:X0) (y:Y0):Nat:=(x.2.2.2.2.1 - x.2.2.2.2.2.1).toNat+1
noncomputable def l0 (x:X0) (y:Y0):Bool×Nat×X0×Y0×U0×V0:=rounds (fun rq kn ke kr x y=>g0 rq kn ke kr x y) () () (fu0 x y) x y
noncomputable def g {Z:Type} (rq:Bool→Z→Z) (rt:X→Z) (gx:(Option ai)) (f:(List (List Int))):Z:=
lt (bU.r gx) fun w1453=>
rq w1453.1<|
bif w1453.2.isNone then
rt (0,(),(0,0,(true,[])))
else
lt (f.length:Int) fun (v1454:Int)=>
lt (fB.l0 (gx,(),(),f,v1454,0,()) ((true,[]),())) fun w1461=>
rq w1461.1<|
lt (fB.l1 ((),(0,w1461.2.2.2.1.1.2.length),()) (w1461.2.2.2.1.1,())) fun w1471=>
rq w1471.1<|
rt (1,(),(w1471.2.2.1.2.1.1,w1471.2.2.1.2.1.2,w1471.2.2.2.1.1))
noncomputable def r (gx:(Option ai)) (f:(List (List Int))):Bool×X:=g chk (fun x=>(true,x)) gx f
noncomputable def D:aP:=Dof (P:=Tryz.prog) [bU.ent,iI.ent,lW.ent]
noncomputable def tab:List (Nat×LE Res):= [(10,.typed (fH 43 sh1 bx1 ow mg mH (bf [3] (rounds (fun rq kn ke kr x y=>g1 rq kn ke kr x y) () ()) fu1))),(6,.typed (fH 43 sh0 bx0 aW aM aN (bf [1] (rounds (fun rq kn ke kr x y=>g0 rq kn ke kr x y) () ()) fu0)))]
set_option maxRecDepth 100000 in
theorem run (gx:(Option ai)) (f:(List (List Int))):aQ E0 [false] D (aJ E0 D tab 9) Tryz.f117 (codeOf Tryz.f117) [.val ⟨.ref au,gx⟩,.val ⟨.sl (.arr 4 (.int .u64)),f⟩] []=g (fun c z=>req c z) (fun x=>some (res x)) gx f:=by kernel_rfl
theorem rel (gx:(Option ai)) (f:(List (List Int))):J (fun w z=>z=some (res w)) (g chk (fun x=>(true,x)) gx f) (g (fun c z=>req c z) (fun x=>some (res x)) gx f):=by
 unfold g
 with_reducible repeat (first|(apply J.lt; intro _)|apply J.rq|apply J.bif|exact J.rt rfl)
set_option maxRecDepth 100000 in
theorem rJ (x:ShX sh1) (y:BxX bx1) (kn:ShX sh1→BxX bx1→Option Res) (ke:Nat→ShX sh1→BxX bx1→Option Res) (kr:ShX mg→BxX mH→Option Res):d9 E0 D (aJ E0 D tab 8) (aD (codeOf Tryz.f117) 1) (inj 43 sh1 bx1 x y) (dN sh1 bx1 ow mg mH qo kn ke kr)=g1 (fun c z=>req c z) kn ke kr x y:=by kernel_rfl
theorem vQ:Nonempty (Told E0 D tab Tryz.f117.ntmps (aD (codeOf Tryz.f117) 1) 43 sh1 bx1 ow mg mH (bf [3] (rounds (fun rq kn ke kr x y=>g1 rq kn ke kr x y) () ()) fu1)):=
 dh (sh:=sh1) (bx:=bx1) (ord:=ow) (shR:=mg) (bxR:=mH) qo 8 (by kernel_rfl) (by kernel_rfl) (by kernel_rfl) [3] fu1 () () (fun rq kn ke kr x y=>g1 rq kn ke kr x y) (fun rq kn ke kr x y=>g1 rq kn ke kr x y) (rJ) (by
  intro φ kn1 kn2 ke1 ke2 kr1 kr2 h1 h2 h3 x y
  simp only [g1]
  with_reducible repeat (first|(apply J.lt; intro _)|apply J.rq|apply J.bif|exact h1 _ _|exact h2 _ (by decide) _ _|exact h3 (by decide) _ _))
set_option maxRecDepth 100000 in
theorem bG (x:ShX sh0) (y:BxX bx0) (kn:ShX sh0→BxX bx0→Option Res) (ke:Nat→ShX sh0→BxX bx0→Option Res) (kr:ShX aM→BxX aN→Option Res):d9 E0 D (aJ E0 D tab 8) (aD (codeOf Tryz.f117) 0) (inj 43 sh0 bx0 x y) (dN sh0 bx0 aW aM aN bC kn ke kr)=g0 (fun c z=>req c z) kn ke kr x y:=by kernel_rfl
theorem cB:Nonempty (Told E0 D tab Tryz.f117.ntmps (aD (codeOf Tryz.f117) 0) 43 sh0 bx0 aW aM aN (bf [1] (rounds (fun rq kn ke kr x y=>g0 rq kn ke kr x y) () ()) fu0)):=
 dh (sh:=sh0) (bx:=bx0) (ord:=aW) (shR:=aM) (bxR:=aN) bC 8 (by kernel_rfl) (by kernel_rfl) (by kernel_rfl) [1] fu0 () () (fun rq kn ke kr x y=>g0 rq kn ke kr x y) (fun rq kn ke kr x y=>g0 rq kn ke kr x y) (bG) (by
  intro φ kn1 kn2 ke1 ke2 kr1 kr2 h1 h2 h3 x y
  simp only [g0]
  with_reducible repeat (first|(apply J.lt; intro _)|apply J.rq|apply J.bif|exact h1 _ _|exact h2 _ (by decide) _ _|exact h3 (by decide) _ _))
theorem cK:fQ E0 D tab Tryz.f117.ntmps (codeOf Tryz.f117):=bY (bs:= [aD (codeOf Tryz.f117) 0,aD (codeOf Tryz.f117) 1]) (by kernel_rfl) (aK (cZ (by kernel_rfl) (cB)) (aK (cZ (by kernel_rfl) (vQ)) bn))
theorem ok:dD Tryz.f117=true:=by kernel_rfl
abbrev aS:List AS:= [.one (.val (.ref au)),.one (.val (.sl (.arr 4 (.int .u64))))]
abbrev bS:List Ty:= []
noncomputable def F (x:ASs aS) (y:Bs bS):Brn Res:=brn (r x.1 x.2.1)
theorem good (x:ASs aS) (y:Bs bS) (h:(F x y).res.1=true):Good Tryz.prog 117 (ASs.mk aS x) (Bs.mk bS y) (F x y).res.2:=
 aF hE0 (aA _) Tryz.func117 ok cK aj (run x.1 x.2.1) (rel x.1 x.2.1) h
noncomputable def ent:Ent Tryz.prog:=⟨117,shF aS bS F,aB good⟩
end fB
namespace jw
abbrev X:Type:=Nat×((Option ai)×(List (List Int))×Int×(List Int))×(Nat×Nat×(Option ai)×(List (List Int))×Int×(List Int)×(Bool×List (List Int)))
noncomputable def pu (x:(Option ai)×(List (List Int))×Int×(List Int)):Res:=⟨[.nil],[some ⟨.ref au,x.1⟩,some ⟨.sl (.arr 4 (.int .u64)),x.2.1⟩,some ⟨.int .i64,x.2.2.1⟩,some ⟨.arr 4 (.int .u64),x.2.2.2⟩],[]⟩
noncomputable def pq (x:Nat×Nat×(Option ai)×(List (List Int))×Int×(List Int)×(Bool×List (List Int))):Res:=⟨[.vs 1000004 (.arr 4 (.int .u64)) [] x.1 x.2.1],[some ⟨.ref au,x.2.2.1⟩,some ⟨.sl (.arr 4 (.int .u64)),x.2.2.2.1⟩,some ⟨.int .i64,x.2.2.2.2.1⟩,some ⟨.arr 4 (.int .u64),x.2.2.2.2.2.1⟩],[⟨.dyn (.arr 4 (.int .u64)),x.2.2.2.2.2.2⟩]⟩
noncomputable def res (x:X):Res:=bif Nat.beq x.1 0 then pu x.2.1 else (pq x.2.2)
noncomputable def brn (w:Bool×X):Brn Res:= .ite (Nat.beq w.2.1 0) (.one w.1 (pu w.2.2.1)) (.one w.1 (pq w.2.2.2))
theorem aj (w:Bool×X):(brn w).res=(w.1,res w.2):=by
 cases h0:Nat.beq w.2.1 0 with
 |true=>simp only [brn,res,Brn.res,h0,cond_true,cond_false]
 |false=>
  simp only [brn,res,Brn.res,h0,cond_true,cond_false]
abbrev sh0:List (Nat×Sh):= [(0,.p (.ref au)),(2,.clo 89 [(1000000,.ref au),(1000001,.sl (.arr 4 (.int .u64))),(1000002,.int .i64),(1000003,.arr 4 (.int .u64))]),(6,.nil),(7,.va 500000 (.arr 4 (.int .u64))),(9,.p (.int .i64)),(10,.p (.int .i64))]
abbrev bx0:List (Nat×Ty):= [(500000,.dyn (.arr 4 (.int .u64))),(1000000,.ref au),(1000001,.sl (.arr 4 (.int .u64))),(1000002,.int .i64),(1000003,.arr 4 (.int .u64))]
abbrev aW:List (Nat×Ty):= [(500000,.dyn (.arr 4 (.int .u64))),(1000000,.ref au),(1000001,.sl (.arr 4 (.int .u64))),(1000002,.int .i64),(1000003,.arr 4 (.int .u64))]
abbrev aM:List (Nat×Sh):= []
abbrev aN:List (Nat×Ty):= []
abbrev bC:List (Nat×Ty):= []
abbrev X0:Type:=(Option ai)×Unit×Unit×Unit×Int×Int×Unit
abbrev Y0:Type:=(Bool×List (List Int))×(Option ai)×(List (List Int))×Int×(List Int)×Unit
abbrev U0:Type:=Unit
abbrev V0:Type:=Unit
noncomputable def g0 {Z:Type} (rq:Bool→Z→Z) (kn:X0→Y0→Z) (ke:Nat→X0→Y0→Z) (kr:U0→V0→Z) (x:X0) (y:Y0):Z:=
lt (ilt x.2.2.2.2.2.1 x.2.2.2.2.1) fun v1417=>
bif v1417 then
lt (jY.r x.2.2.2.2.2.1 y.2.1 y.2.2.1 y.2.2.2.1 y.2.2.2.2.1) fun w1418=>
rq w1418.1<|
lt (y.1.1&&false) fun (v1419:Bool)=>
lt (y.1.2++ [w1418.2.1]) fun (v1420:(List (List Int)))=>
rq (nle ((2*(y.1.2.length+1)+512)*32) 70368744177664)<|
lt (IntKind.i64.wrap (x.2.2.2.2.2.1+1)) fun v1421=>
kn (x.1,(),(),(),x.2.2.2.2.1,v1421,()) ((v1419,v1420),w1418.2.2.1,w1418.2.2.2.1,w1418.2.2.2.2.1,w1418.2.2.2.2.2,())
else
ke 0 (x.1,(),(),(),x.2.2.2.2.1,x.2.2.2.2.2.1,()) (y.1,y.2.1,y.2.2.1,y.2.2.2.1,y.2.2.2.2.1,())
noncomputable def fu0 (x:X0) (y:Y0):Nat:=(x.2.2.2.2.1 - x.2.2.2.2.2.1).toNat+1
noncomputable def l0 (x:X0) (y:Y0):Bool×Nat×X0×Y0×U0×V0:=rounds (fun rq kn ke kr x y=>g0 rq kn ke kr x y) () () (fu0 x y) x y
noncomputable def g {Z:Type} (rq:Bool→Z→Z) (rt:X→Z) (gx:(Option ai)) (n:Int) (b:(Option ai)) (bx:(List (List Int))) (bx1:Int) (bx11:(List Int)):Z:=
lt (jw.l0 (gx,(),(),(),n,0,()) ((true,[]),b,bx,bx1,bx11,())) fun w1422=>
rq w1422.1<|
lt (fB.r w1422.2.2.1.1 w1422.2.2.2.1.1.2) fun w1472=>
bif Nat.beq w1472.2.1 0 then
rq w1472.1<|
rt (0,(w1422.2.2.2.1.2.1,w1422.2.2.2.1.2.2.1,w1422.2.2.2.1.2.2.2.1,w1422.2.2.2.1.2.2.2.2.1),(0,0,none,[],0,[0,0,0,0],(true,[])))
else
rq w1472.1<|
rt (1,(none,[],0,[0,0,0,0]),(w1472.2.2.2.1,w1472.2.2.2.2.1,w1422.2.2.2.1.2.1,w1422.2.2.2.1.2.2.1,w1422.2.2.2.1.2.2.2.1,w1422.2.2.2.1.2.2.2.2.1,w1472.2.2.2.2.2))
noncomputable def r (gx:(Option ai)) (n:Int) (b:(Option ai)) (bx:(List (List Int))) (bx1:Int) (bx11:(List Int)):Bool×X:=g chk (fun x=>(true,x)) gx n b bx bx1 bx11
noncomputable def D:aP:=Dof (P:=Tryz.prog) [jY.ent,fB.ent]
noncomputable def tab:List (Nat×LE Res):= [(4,.typed (fH 23 sh0 bx0 aW aM aN (bf [1] (rounds (fun rq kn ke kr x y=>g0 rq kn ke kr x y) () ()) fu0)))]
set_option maxRecDepth 100000 in
theorem run (gx:(Option ai)) (n:Int) (b:(Option ai)) (bx:(List (List Int))) (bx1:Int) (bx11:(List Int)):aQ E0 [false] D (aJ E0 D tab 9) Tryz.f86 (codeOf Tryz.f86) [.val ⟨.ref au,gx⟩,.val ⟨.int .i64,n⟩,.clo 89 [.pb 1000000 (.ref au) [],.pb 1000001 (.sl (.arr 4 (.int .u64))) [],.pb 1000002 (.int .i64) [],.pb 1000003 (.arr 4 (.int .u64)) []]] [⟨.ref au,b⟩,⟨.sl (.arr 4 (.int .u64)),bx⟩,⟨.int .i64,bx1⟩,⟨.arr 4 (.int .u64),bx11⟩]=g (fun c z=>req c z) (fun x=>some (res x)) gx n b bx bx1 bx11:=by kernel_rfl
theorem rel (gx:(Option ai)) (n:Int) (b:(Option ai)) (bx:(List (List Int))) (bx1:Int) (bx11:(List Int)):J (fun w z=>z=some (res w)) (g chk (fun x=>(true,x)) gx n b bx bx1 bx11) (g (fun c z=>req c z) (fun x=>some (res x)) gx n b bx bx1 bx11):=by
 unfold g
 with_reducible repeat (first|(apply J.lt; intro _)|apply J.rq|apply J.bif|exact J.rt rfl)
set_option maxRecDepth 100000 in
theorem bG (x:ShX sh0) (y:BxX bx0) (kn:ShX sh0→BxX bx0→Option Res) (ke:Nat→ShX sh0→BxX bx0→Option Res) (kr:ShX aM→BxX aN→Option Res):d9 E0 D (aJ E0 D tab 8) (aD (codeOf Tryz.f86) 0) (inj 23 sh0 bx0 x y) (dN sh0 bx0 aW aM aN bC kn ke kr)=g0 (fun c z=>req c z) kn ke kr x y:=by kernel_rfl
theorem cB:Nonempty (Told E0 D tab Tryz.f86.ntmps (aD (codeOf Tryz.f86) 0) 23 sh0 bx0 aW aM aN (bf [1] (rounds (fun rq kn ke kr x y=>g0 rq kn ke kr x y) () ()) fu0)):=
 dh (sh:=sh0) (bx:=bx0) (ord:=aW) (shR:=aM) (bxR:=aN) bC 8 (by kernel_rfl) (by kernel_rfl) (by kernel_rfl) [1] fu0 () () (fun rq kn ke kr x y=>g0 rq kn ke kr x y) (fun rq kn ke kr x y=>g0 rq kn ke kr x y) (bG) (by
  intro φ kn1 kn2 ke1 ke2 kr1 kr2 h1 h2 h3 x y
  simp only [g0]
  with_reducible repeat (first|(apply J.lt; intro _)|apply J.rq|apply J.bif|exact h1 _ _|exact h2 _ (by decide) _ _|exact h3 (by decide) _ _))
theorem cK:fQ E0 D tab Tryz.f86.ntmps (codeOf Tryz.f86):=bY (bs:= [aD (codeOf Tryz.f86) 0]) (by kernel_rfl) (aK (cZ (by kernel_rfl) (cB)) bn)
theorem ok:dD Tryz.f86=true:=by kernel_rfl
abbrev aS:List AS:= [.one (.val (.ref au)),.one (.val (.int .i64)),.clo 89 [.pb 1000000 (.ref au) [],.pb 1000001 (.sl (.arr 4 (.int .u64))) [],.pb 1000002 (.int .i64) [],.pb 1000003 (.arr 4 (.int .u64)) []]]
abbrev bS:List Ty:= [.ref au,.sl (.arr 4 (.int .u64)),.int .i64,.arr 4 (.int .u64)]
noncomputable def F (x:ASs aS) (y:Bs bS):Brn Res:=brn (r x.1 x.2.1 y.1 y.2.1 y.2.2.1 y.2.2.2.1)
theorem good (x:ASs aS) (y:Bs bS) (h:(F x y).res.1=true):Good Tryz.prog 86 (ASs.mk aS x) (Bs.mk bS y) (F x y).res.2:=
 aF hE0 (aA _) Tryz.func86 ok cK aj (run x.1 x.2.1 y.1 y.2.1 y.2.2.1 y.2.2.2.1) (rel x.1 x.2.1 y.1 y.2.1 y.2.2.1 y.2.2.2.1) h
noncomputable def ent:Ent Tryz.prog:=⟨86,shF aS bS F,aB good⟩
end jw
namespace lX
abbrev X:Type:=(List (List Int))
noncomputable def res (x:(List (List Int))):Res:=⟨[.val ⟨.sl (.arr 4 (.int .u64)),x⟩],[],[]⟩
noncomputable def brn (w:Bool×X):Brn Res:= .one w.1 (res w.2)
theorem aj (w:Bool×X):(brn w).res=(w.1,res w.2):=rfl
noncomputable def g {Z:Type} (rq:Bool→Z→Z) (rt:X→Z) (gx:(Option ai)) (f:(List (List Int))) (byx:(List Int)) (up:Int):Z:=
lt (f.length:Int) fun (v1404:Int)=>
lt (IntKind.i64.wrap (v1404+up)) fun v1405=>
lt (jw.r gx v1405 gx f up byx) fun w1473=>
bif Nat.beq w1473.2.1 0 then
rq w1473.1<|
rt []
else
rq w1473.1<|
rt ((w1473.2.2.2.2.2.2.2.2.2.2.drop w1473.2.2.2.1).take w1473.2.2.2.2.1)
noncomputable def r (gx:(Option ai)) (f:(List (List Int))) (byx:(List Int)) (up:Int):Bool×X:=g chk (fun x=>(true,x)) gx f byx up
noncomputable def D:aP:=Dof (P:=Tryz.prog) [jw.ent]
noncomputable def tab:List (Nat×LE Res):= []
set_option maxRecDepth 100000 in
theorem run (gx:(Option ai)) (f:(List (List Int))) (byx:(List Int)) (up:Int):aQ E0 [true] D (aJ E0 D tab 9) Tryz.f61 (codeOf Tryz.f61) [.val ⟨.ref au,gx⟩,.val ⟨.sl (.arr 4 (.int .u64)),f⟩,.val ⟨.arr 4 (.int .u64),byx⟩,.val ⟨.int .i64,up⟩] []=g (fun c z=>req c z) (fun x=>some (res x)) gx f byx up:=by kernel_rfl
theorem rel (gx:(Option ai)) (f:(List (List Int))) (byx:(List Int)) (up:Int):J (fun w z=>z=some (res w)) (g chk (fun x=>(true,x)) gx f byx up) (g (fun c z=>req c z) (fun x=>some (res x)) gx f byx up):=by
 unfold g
 with_reducible repeat (first|(apply J.lt; intro _)|apply J.rq|apply J.bif|exact J.rt rfl)
theorem ok:dD Tryz.f61=true:=by kernel_rfl
abbrev aS:List AS:= [.one (.val (.ref au)),.one (.val (.sl (.arr 4 (.int .u64)))),.one (.val (.arr 4 (.int .u64))),.one (.val (.int .i64))]
abbrev bS:List Ty:= []
noncomputable def F (x:ASs aS) (y:Bs bS):Brn Res:=brn (r x.1 x.2.1 x.2.2.1 x.2.2.2.1)
theorem good (x:ASs aS) (y:Bs bS) (h:(F x y).res.1=true):Good Tryz.prog 61 (ASs.mk aS x) (Bs.mk bS y) (F x y).res.2:=
 aF hE0 (aA _) Tryz.func61 ok aO aj (run x.1 x.2.1 x.2.2.1 x.2.2.2.1) (rel x.1 x.2.1 x.2.2.1 x.2.2.2.1) h
noncomputable def ent:Ent Tryz.prog:=⟨61,shF aS bS F,aB good⟩
end lX
namespace nJ
abbrev X:Type:=(List Int)×(Option ai)×(List (List Int))×(List (List Int))
noncomputable def res (x:(List Int)×(Option ai)×(List (List Int))×(List (List Int))):Res:=⟨[.val ⟨.arr 4 (.int .u64),x.1⟩],[some ⟨.ref au,x.2.1⟩,some ⟨.sl (.arr 4 (.int .u64)),x.2.2.1⟩,some ⟨.sl (.arr 4 (.int .u64)),x.2.2.2⟩],[]⟩
noncomputable def brn (w:Bool×X):Brn Res:= .one w.1 (res w.2)
theorem aj (w:Bool×X):(brn w).res=(w.1,res w.2):=rfl
noncomputable def g {Z:Type} (rq:Bool→Z→Z) (rt:X→Z) (kx:Int) (b:(Option ai)) (bx:(List (List Int))) (bx1:(List (List Int))):Z:=
lt (mO.r bx kx) fun w1480=>
rq w1480.1<|
lt (mO.r bx1 kx) fun w1481=>
rq w1481.1<|
lt (iI.r b w1480.2 w1481.2) fun w1482=>
rq w1482.1<|
rt (w1482.2,b,bx,bx1)
noncomputable def r (kx:Int) (b:(Option ai)) (bx:(List (List Int))) (bx1:(List (List Int))):Bool×X:=g chk (fun x=>(true,x)) kx b bx bx1
noncomputable def D:aP:=Dof (P:=Tryz.prog) [mO.ent,iI.ent]
noncomputable def tab:List (Nat×LE Res):= []
set_option maxRecDepth 100000 in
theorem run (kx:Int) (b:(Option ai)) (bx:(List (List Int))) (bx1:(List (List Int))):aQ E0 [true] D (aJ E0 D tab 9) Tryz.f87 (codeOf Tryz.f87) [.val ⟨.int .i64,kx⟩,.pb 1000000 (.ref au) [],.pb 1000001 (.sl (.arr 4 (.int .u64))) [],.pb 1000002 (.sl (.arr 4 (.int .u64))) []] [⟨.ref au,b⟩,⟨.sl (.arr 4 (.int .u64)),bx⟩,⟨.sl (.arr 4 (.int .u64)),bx1⟩]=g (fun c z=>req c z) (fun x=>some (res x)) kx b bx bx1:=by kernel_rfl
theorem rel (kx:Int) (b:(Option ai)) (bx:(List (List Int))) (bx1:(List (List Int))):J (fun w z=>z=some (res w)) (g chk (fun x=>(true,x)) kx b bx bx1) (g (fun c z=>req c z) (fun x=>some (res x)) kx b bx bx1):=by
 unfold g
 with_reducible repeat (first|(apply J.lt; intro _)|apply J.rq|apply J.bif|exact J.rt rfl)
theorem ok:dD Tryz.f87=true:=by kernel_rfl
abbrev aS:List AS:= [.one (.val (.int .i64)),.one (.pb 1000000 (.ref au) []),.one (.pb 1000001 (.sl (.arr 4 (.int .u64))) []),.one (.pb 1000002 (.sl (.arr 4 (.int .u64))) [])]
abbrev bS:List Ty:= [.ref au,.sl (.arr 4 (.int .u64)),.sl (.arr 4 (.int .u64))]
noncomputable def F (x:ASs aS) (y:Bs bS):Brn Res:=brn (r x.1 y.1 y.2.1 y.2.2.1)
theorem good (x:ASs aS) (y:Bs bS) (h:(F x y).res.1=true):Good Tryz.prog 87 (ASs.mk aS x) (Bs.mk bS y) (F x y).res.2:=
 aF hE0 (aA _) Tryz.func87 ok aO aj (run x.1 y.1 y.2.1 y.2.2.1) (rel x.1 y.1 y.2.1 y.2.2.1) h
noncomputable def ent:Ent Tryz.prog:=⟨87,shF aS bS F,aB good⟩
end nJ
namespace gN
abbrev X:Type:=Nat×((Option ai)×(List (List Int))×(List (List Int)))×(Nat×Nat×(Option ai)×(List (List Int))×(List (List Int))×(Bool×List (List Int)))
noncomputable def pu (x:(Option ai)×(List (List Int))×(List (List Int))):Res:=⟨[.nil],[some ⟨.ref au,x.1⟩,some ⟨.sl (.arr 4 (.int .u64)),x.2.1⟩,some ⟨.sl (.arr 4 (.int .u64)),x.2.2⟩],[]⟩
noncomputable def pq (x:Nat×Nat×(Option ai)×(List (List Int))×(List (List Int))×(Bool×List (List Int))):Res:=⟨[.vs 1000003 (.arr 4 (.int .u64)) [] x.1 x.2.1],[some ⟨.ref au,x.2.2.1⟩,some ⟨.sl (.arr 4 (.int .u64)),x.2.2.2.1⟩,some ⟨.sl (.arr 4 (.int .u64)),x.2.2.2.2.1⟩],[⟨.dyn (.arr 4 (.int .u64)),x.2.2.2.2.2⟩]⟩
noncomputable def res (x:X):Res:=bif Nat.beq x.1 0 then pu x.2.1 else (pq x.2.2)
noncomputable def brn (w:Bool×X):Brn Res:= .ite (Nat.beq w.2.1 0) (.one w.1 (pu w.2.2.1)) (.one w.1 (pq w.2.2.2))
theorem aj (w:Bool×X):(brn w).res=(w.1,res w.2):=by
 cases h0:Nat.beq w.2.1 0 with
 |true=>simp only [brn,res,Brn.res,h0,cond_true,cond_false]
 |false=>
  simp only [brn,res,Brn.res,h0,cond_true,cond_false]
abbrev sh0:List (Nat×Sh):= [(0,.p (.ref au)),(2,.clo 87 [(1000000,.ref au),(1000001,.sl (.arr 4 (.int .u64))),(1000002,.sl (.arr 4 (.int .u64)))]),(6,.nil),(7,.va 500000 (.arr 4 (.int .u64))),(9,.p (.int .i64)),(10,.p (.int .i64))]
abbrev bx0:List (Nat×Ty):= [(500000,.dyn (.arr 4 (.int .u64))),(1000000,.ref au),(1000001,.sl (.arr 4 (.int .u64))),(1000002,.sl (.arr 4 (.int .u64)))]
abbrev aW:List (Nat×Ty):= [(500000,.dyn (.arr 4 (.int .u64))),(1000000,.ref au),(1000001,.sl (.arr 4 (.int .u64))),(1000002,.sl (.arr 4 (.int .u64)))]
abbrev aM:List (Nat×Sh):= []
abbrev aN:List (Nat×Ty):= []
abbrev bC:List (Nat×Ty):= []
abbrev X0:Type:=(Option ai)×Unit×Unit×Unit×Int×Int×Unit
abbrev Y0:Type:=(Bool×List (List Int))×(Option ai)×(List (List Int))×(List (List Int))×Unit
abbrev U0:Type:=Unit
abbrev V0:Type:=Unit
noncomputable def g0 {Z:Type} (rq:Bool→Z→Z) (kn:X0→Y0→Z) (ke:Nat→X0→Y0→Z) (kr:U0→V0→Z) (x:X0) (y:Y0):Z:=
lt (ilt x.2.2.2.2.2.1 x.2.2.2.2.1) fun v1485=>
bif v1485 then
lt (nJ.r x.2.2.2.2.2.1 y.2.1 y.2.2.1 y.2.2.2.1) fun w1486=>
rq w1486.1<|
lt (y.1.1&&false) fun (v1487:Bool)=>
lt (y.1.2++ [w1486.2.1]) fun (v1488:(List (List Int)))=>
rq (nle ((2*(y.1.2.length+1)+512)*32) 70368744177664)<|
lt (IntKind.i64.wrap (x.2.2.2.2.2.1+1)) fun v1489=>
kn (x.1,(),(),(),x.2.2.2.2.1,v1489,()) ((v1487,v1488),w1486.2.2.1,w1486.2.2.2.1,w1486.2.2.2.2,())
else
ke 0 (x.1,(),(),(),x.2.2.2.2.1,x.2.2.2.2.2.1,()) (y.1,y.2.1,y.2.2.1,y.2.2.2.1,())
noncomputable def fu0 (x:X0) (y:Y0):Nat:=(x.2.2.2.2.1 - x.2.2.2.2.2.1).toNat+1
noncomputable def l0 (x:X0) (y:Y0):Bool×Nat×X0×Y0×U0×V0:=rounds (fun rq kn ke kr x y=>g0 rq kn ke kr x y) () () (fu0 x y) x y
noncomputable def g {Z:Type} (rq:Bool→Z→Z) (rt:X→Z) (gx:(Option ai)) (n:Int) (b:(Option ai)) (bx:(List (List Int))) (bx1:(List (List Int))):Z:=
lt (gN.l0 (gx,(),(),(),n,0,()) ((true,[]),b,bx,bx1,())) fun w1490=>
rq w1490.1<|
lt (fB.r w1490.2.2.1.1 w1490.2.2.2.1.1.2) fun w1491=>
bif Nat.beq w1491.2.1 0 then
rq w1491.1<|
rt (0,(w1490.2.2.2.1.2.1,w1490.2.2.2.1.2.2.1,w1490.2.2.2.1.2.2.2.1),(0,0,none,[],[],(true,[])))
else
rq w1491.1<|
rt (1,(none,[],[]),(w1491.2.2.2.1,w1491.2.2.2.2.1,w1490.2.2.2.1.2.1,w1490.2.2.2.1.2.2.1,w1490.2.2.2.1.2.2.2.1,w1491.2.2.2.2.2))
noncomputable def r (gx:(Option ai)) (n:Int) (b:(Option ai)) (bx:(List (List Int))) (bx1:(List (List Int))):Bool×X:=g chk (fun x=>(true,x)) gx n b bx bx1
noncomputable def D:aP:=Dof (P:=Tryz.prog) [nJ.ent,fB.ent]
noncomputable def tab:List (Nat×LE Res):= [(4,.typed (fH 23 sh0 bx0 aW aM aN (bf [1] (rounds (fun rq kn ke kr x y=>g0 rq kn ke kr x y) () ()) fu0)))]
set_option maxRecDepth 100000 in
theorem run (gx:(Option ai)) (n:Int) (b:(Option ai)) (bx:(List (List Int))) (bx1:(List (List Int))):aQ E0 [false] D (aJ E0 D tab 9) Tryz.f86 (codeOf Tryz.f86) [.val ⟨.ref au,gx⟩,.val ⟨.int .i64,n⟩,.clo 87 [.pb 1000000 (.ref au) [],.pb 1000001 (.sl (.arr 4 (.int .u64))) [],.pb 1000002 (.sl (.arr 4 (.int .u64))) []]] [⟨.ref au,b⟩,⟨.sl (.arr 4 (.int .u64)),bx⟩,⟨.sl (.arr 4 (.int .u64)),bx1⟩]=g (fun c z=>req c z) (fun x=>some (res x)) gx n b bx bx1:=by kernel_rfl
theorem rel (gx:(Option ai)) (n:Int) (b:(Option ai)) (bx:(List (List Int))) (bx1:(List (List Int))):J (fun w z=>z=some (res w)) (g chk (fun x=>(true,x)) gx n b bx bx1) (g (fun c z=>req c z) (fun x=>some (res x)) gx n b bx bx1):=by
 unfold g
 with_reducible repeat (first|(apply J.lt; intro _)|apply J.rq|apply J.bif|exact J.rt rfl)
set_option maxRecDepth 100000 in
theorem bG (x:ShX sh0) (y:BxX bx0) (kn:ShX sh0→BxX bx0→Option Res) (ke:Nat→ShX sh0→BxX bx0→Option Res) (kr:ShX aM→BxX aN→Option Res):d9 E0 D (aJ E0 D tab 8) (aD (codeOf Tryz.f86) 0) (inj 23 sh0 bx0 x y) (dN sh0 bx0 aW aM aN bC kn ke kr)=g0 (fun c z=>req c z) kn ke kr x y:=by kernel_rfl
theorem cB:Nonempty (Told E0 D tab Tryz.f86.ntmps (aD (codeOf Tryz.f86) 0) 23 sh0 bx0 aW aM aN (bf [1] (rounds (fun rq kn ke kr x y=>g0 rq kn ke kr x y) () ()) fu0)):=
 dh (sh:=sh0) (bx:=bx0) (ord:=aW) (shR:=aM) (bxR:=aN) bC 8 (by kernel_rfl) (by kernel_rfl) (by kernel_rfl) [1] fu0 () () (fun rq kn ke kr x y=>g0 rq kn ke kr x y) (fun rq kn ke kr x y=>g0 rq kn ke kr x y) (bG) (by
  intro φ kn1 kn2 ke1 ke2 kr1 kr2 h1 h2 h3 x y
  simp only [g0]
  with_reducible repeat (first|(apply J.lt; intro _)|apply J.rq|apply J.bif|exact h1 _ _|exact h2 _ (by decide) _ _|exact h3 (by decide) _ _))
theorem cK:fQ E0 D tab Tryz.f86.ntmps (codeOf Tryz.f86):=bY (bs:= [aD (codeOf Tryz.f86) 0]) (by kernel_rfl) (aK (cZ (by kernel_rfl) (cB)) bn)
theorem ok:dD Tryz.f86=true:=by kernel_rfl
abbrev aS:List AS:= [.one (.val (.ref au)),.one (.val (.int .i64)),.clo 87 [.pb 1000000 (.ref au) [],.pb 1000001 (.sl (.arr 4 (.int .u64))) [],.pb 1000002 (.sl (.arr 4 (.int .u64))) []]]
abbrev bS:List Ty:= [.ref au,.sl (.arr 4 (.int .u64)),.sl (.arr 4 (.int .u64))]
noncomputable def F (x:ASs aS) (y:Bs bS):Brn Res:=brn (r x.1 x.2.1 y.1 y.2.1 y.2.2.1)
theorem good (x:ASs aS) (y:Bs bS) (h:(F x y).res.1=true):Good Tryz.prog 86 (ASs.mk aS x) (Bs.mk bS y) (F x y).res.2:=
 aF hE0 (aA _) Tryz.func86 ok cK aj (run x.1 x.2.1 y.1 y.2.1 y.2.2.1) (rel x.1 x.2.1 y.1 y.2.1 y.2.2.1) h
noncomputable def ent:Ent Tryz.prog:=⟨86,shF aS bS F,aB good⟩
end gN
namespace rC
abbrev X:Type:=Nat×(Unit)×(Nat×Nat×(Bool×List (List Int)))
noncomputable def pu (x:Unit):Res:=⟨[.nil],[],[]⟩
noncomputable def pq (x:Nat×Nat×(Bool×List (List Int))):Res:=⟨[.vs 1000000 (.arr 4 (.int .u64)) [] x.1 x.2.1],[],[⟨.dyn (.arr 4 (.int .u64)),x.2.2⟩]⟩
noncomputable def res (x:X):Res:=bif Nat.beq x.1 0 then pu x.2.1 else (pq x.2.2)
noncomputable def brn (w:Bool×X):Brn Res:= .ite (Nat.beq w.2.1 0) (.one w.1 (pu w.2.2.1)) (.one w.1 (pq w.2.2.2))
theorem aj (w:Bool×X):(brn w).res=(w.1,res w.2):=by
 cases h0:Nat.beq w.2.1 0 with
 |true=>simp only [brn,res,Brn.res,h0,cond_true,cond_false]
 |false=>
  simp only [brn,res,Brn.res,h0,cond_true,cond_false]
noncomputable def g {Z:Type} (rq:Bool→Z→Z) (rt:X→Z) (gx:(Option ai)) (a:(List (List Int))) (b:(List (List Int))):Z:=
lt (a.length:Int) fun (v1475:Int)=>
lt (b.length:Int) fun (v1476:Int)=>
lt (bif ilt v1475 v1476 then v1476 else v1475) fun (v1477:Int)=>
lt (gN.r gx v1477 gx a b) fun w1492=>
bif Nat.beq w1492.2.1 0 then
rq w1492.1<|
rt (0,(),(0,0,(true,[])))
else
rq w1492.1<|
rt (1,(),(w1492.2.2.2.1,w1492.2.2.2.2.1,w1492.2.2.2.2.2.2.2.2))
noncomputable def r (gx:(Option ai)) (a:(List (List Int))) (b:(List (List Int))):Bool×X:=g chk (fun x=>(true,x)) gx a b
noncomputable def D:aP:=Dof (P:=Tryz.prog) [gN.ent]
noncomputable def tab:List (Nat×LE Res):= []
set_option maxRecDepth 100000 in
theorem run (gx:(Option ai)) (a:(List (List Int))) (b:(List (List Int))):aQ E0 [false] D (aJ E0 D tab 9) Tryz.f60 (codeOf Tryz.f60) [.val ⟨.ref au,gx⟩,.val ⟨.sl (.arr 4 (.int .u64)),a⟩,.val ⟨.sl (.arr 4 (.int .u64)),b⟩] []=g (fun c z=>req c z) (fun x=>some (res x)) gx a b:=by kernel_rfl
theorem rel (gx:(Option ai)) (a:(List (List Int))) (b:(List (List Int))):J (fun w z=>z=some (res w)) (g chk (fun x=>(true,x)) gx a b) (g (fun c z=>req c z) (fun x=>some (res x)) gx a b):=by
 unfold g
 with_reducible repeat (first|(apply J.lt; intro _)|apply J.rq|apply J.bif|exact J.rt rfl)
theorem ok:dD Tryz.f60=true:=by kernel_rfl
abbrev aS:List AS:= [.one (.val (.ref au)),.one (.val (.sl (.arr 4 (.int .u64)))),.one (.val (.sl (.arr 4 (.int .u64))))]
abbrev bS:List Ty:= []
noncomputable def F (x:ASs aS) (y:Bs bS):Brn Res:=brn (r x.1 x.2.1 x.2.2.1)
theorem good (x:ASs aS) (y:Bs bS) (h:(F x y).res.1=true):Good Tryz.prog 60 (ASs.mk aS x) (Bs.mk bS y) (F x y).res.2:=
 aF hE0 (aA _) Tryz.func60 ok aO aj (run x.1 x.2.1 x.2.2.1) (rel x.1 x.2.1 x.2.2.1) h
noncomputable def ent:Ent Tryz.prog:=⟨60,shF aS bS F,aB good⟩
end rC
namespace iJ
abbrev X:Type:=(List Int)×(List (List Int))×(Option ai)×(List (List Int))
noncomputable def res (x:(List Int)×(List (List Int))×(Option ai)×(List (List Int))):Res:=⟨[.val ⟨.arr 4 (.int .u64),x.1⟩],[some ⟨.sl (.arr 4 (.int .u64)),x.2.1⟩,some ⟨.ref au,x.2.2.1⟩,some ⟨.sl (.arr 4 (.int .u64)),x.2.2.2⟩],[]⟩
noncomputable def brn (w:Bool×X):Brn Res:= .one w.1 (res w.2)
theorem aj (w:Bool×X):(brn w).res=(w.1,res w.2):=rfl
abbrev sh0:List (Nat×Sh):= [(0,.p (.int .i64)),(1,.pb 1000000 (.sl (.arr 4 (.int .u64))) []),(2,.pb 1000001 (.ref au) []),(3,.pb 1000002 (.sl (.arr 4 (.int .u64))) []),(5,.pb 500000 (.arr 4 (.int .u64)) []),(6,.pb 500001 (.arr 4 (.int .u64)) []),(9,.p (.int .i64)),(10,.p (.int .i64))]
abbrev bx0:List (Nat×Ty):= [(500000,.arr 4 (.int .u64)),(500001,.arr 4 (.int .u64)),(1000000,.sl (.arr 4 (.int .u64))),(1000001,.ref au),(1000002,.sl (.arr 4 (.int .u64)))]
abbrev aW:List (Nat×Ty):= [(500000,.arr 4 (.int .u64)),(500001,.arr 4 (.int .u64)),(1000000,.sl (.arr 4 (.int .u64))),(1000001,.ref au),(1000002,.sl (.arr 4 (.int .u64)))]
abbrev aM:List (Nat×Sh):= []
abbrev aN:List (Nat×Ty):= []
abbrev bC:List (Nat×Ty):= []
abbrev X0:Type:=Int×Unit×Unit×Unit×Unit×Unit×Int×Int×Unit
abbrev Y0:Type:=(List Int)×(List Int)×(List (List Int))×(Option ai)×(List (List Int))×Unit
abbrev U0:Type:=Unit
abbrev V0:Type:=Unit
noncomputable def g0 {Z:Type} (rq:Bool→Z→Z) (kn:X0→Y0→Z) (ke:Nat→X0→Y0→Z) (kr:U0→V0→Z) (x:X0) (y:Y0):Z:=
lt (ilt x.2.2.2.2.2.2.2.1 x.2.2.2.2.2.2.1) fun v1502=>
bif v1502 then
lt (y.2.2.1.getD x.2.2.2.2.2.2.2.1.toNat [0,0,0,0]) fun (v1503:(List Int))=>
rq (ile (0:Int) x.2.2.2.2.2.2.2.1&&ilt x.2.2.2.2.2.2.2.1 (y.2.2.1.length:Int))<|
lt (IntKind.i64.wrap (x.1 - x.2.2.2.2.2.2.2.1)) fun v1504=>
lt (mO.r y.2.2.2.2.1 v1504) fun w1505=>
rq w1505.1<|
lt (iH.r y.2.2.2.1 v1503 w1505.2) fun w1506=>
rq w1506.1<|
lt (iI.r y.2.2.2.1 y.2.1 w1506.2) fun w1507=>
rq w1507.1<|
lt (IntKind.i64.wrap (x.2.2.2.2.2.2.2.1+1)) fun v1508=>
kn (x.1,(),(),(),(),(),x.2.2.2.2.2.2.1,v1508,()) (y.1,w1507.2,y.2.2.1,y.2.2.2.1,y.2.2.2.2.1,())
else
ke 0 (x.1,(),(),(),(),(),x.2.2.2.2.2.2.1,x.2.2.2.2.2.2.2.1,()) (y.1,y.2.1,y.2.2.1,y.2.2.2.1,y.2.2.2.2.1,())
noncomputable def fu0 (x:X0) (y:Y0):Nat:=(x.2.2.2.2.2.2.1 - x.2.2.2.2.2.2.2.1).toNat+1
noncomputable def l0 (x:X0) (y:Y0):Bool×Nat×X0×Y0×U0×V0:=rounds (fun rq kn ke kr x y=>g0 rq kn ke kr x y) () () (fu0 x y) x y
noncomputable def g {Z:Type} (rq:Bool→Z→Z) (rt:X→Z) (kx:Int) (b:(List (List Int))) (bx:(Option ai)) (bx1:(List (List Int))):Z:=
lt (b.length:Int) fun (v1500:Int)=>
lt (iJ.l0 (kx,(),(),(),(),(),v1500,0,()) ([0,0,0,0],[0,0,0,0],b,bx,bx1,())) fun w1509=>
rq w1509.1<|
rt (w1509.2.2.2.1.2.1,w1509.2.2.2.1.2.2.1,w1509.2.2.2.1.2.2.2.1,w1509.2.2.2.1.2.2.2.2.1)
noncomputable def r (kx:Int) (b:(List (List Int))) (bx:(Option ai)) (bx1:(List (List Int))):Bool×X:=g chk (fun x=>(true,x)) kx b bx bx1
noncomputable def D:aP:=Dof (P:=Tryz.prog) [mO.ent,iH.ent,iI.ent]
noncomputable def tab:List (Nat×LE Res):= [(4,.typed (fH 29 sh0 bx0 aW aM aN (bf [1] (rounds (fun rq kn ke kr x y=>g0 rq kn ke kr x y) () ()) fu0)))]
set_option maxRecDepth 100000 in
theorem run (kx:Int) (b:(List (List Int))) (bx:(Option ai)) (bx1:(List (List Int))):aQ E0 [true] D (aJ E0 D tab 9) Tryz.f91 (codeOf Tryz.f91) [.val ⟨.int .i64,kx⟩,.pb 1000000 (.sl (.arr 4 (.int .u64))) [],.pb 1000001 (.ref au) [],.pb 1000002 (.sl (.arr 4 (.int .u64))) []] [⟨.sl (.arr 4 (.int .u64)),b⟩,⟨.ref au,bx⟩,⟨.sl (.arr 4 (.int .u64)),bx1⟩]=g (fun c z=>req c z) (fun x=>some (res x)) kx b bx bx1:=by kernel_rfl
theorem rel (kx:Int) (b:(List (List Int))) (bx:(Option ai)) (bx1:(List (List Int))):J (fun w z=>z=some (res w)) (g chk (fun x=>(true,x)) kx b bx bx1) (g (fun c z=>req c z) (fun x=>some (res x)) kx b bx bx1):=by
 unfold g
 with_reducible repeat (first|(apply J.lt; intro _)|apply J.rq|apply J.bif|exact J.rt rfl)
set_option maxRecDepth 100000 in
theorem bG (x:ShX sh0) (y:BxX bx0) (kn:ShX sh0→BxX bx0→Option Res) (ke:Nat→ShX sh0→BxX bx0→Option Res) (kr:ShX aM→BxX aN→Option Res):d9 E0 D (aJ E0 D tab 8) (aD (codeOf Tryz.f91) 0) (inj 29 sh0 bx0 x y) (dN sh0 bx0 aW aM aN bC kn ke kr)=g0 (fun c z=>req c z) kn ke kr x y:=by kernel_rfl
theorem cB:Nonempty (Told E0 D tab Tryz.f91.ntmps (aD (codeOf Tryz.f91) 0) 29 sh0 bx0 aW aM aN (bf [1] (rounds (fun rq kn ke kr x y=>g0 rq kn ke kr x y) () ()) fu0)):=
 dh (sh:=sh0) (bx:=bx0) (ord:=aW) (shR:=aM) (bxR:=aN) bC 8 (by kernel_rfl) (by kernel_rfl) (by kernel_rfl) [1] fu0 () () (fun rq kn ke kr x y=>g0 rq kn ke kr x y) (fun rq kn ke kr x y=>g0 rq kn ke kr x y) (bG) (by
  intro φ kn1 kn2 ke1 ke2 kr1 kr2 h1 h2 h3 x y
  simp only [g0]
  with_reducible repeat (first|(apply J.lt; intro _)|apply J.rq|apply J.bif|exact h1 _ _|exact h2 _ (by decide) _ _|exact h3 (by decide) _ _))
theorem cK:fQ E0 D tab Tryz.f91.ntmps (codeOf Tryz.f91):=bY (bs:= [aD (codeOf Tryz.f91) 0]) (by kernel_rfl) (aK (cZ (by kernel_rfl) (cB)) bn)
theorem ok:dD Tryz.f91=true:=by kernel_rfl
abbrev aS:List AS:= [.one (.val (.int .i64)),.one (.pb 1000000 (.sl (.arr 4 (.int .u64))) []),.one (.pb 1000001 (.ref au) []),.one (.pb 1000002 (.sl (.arr 4 (.int .u64))) [])]
abbrev bS:List Ty:= [.sl (.arr 4 (.int .u64)),.ref au,.sl (.arr 4 (.int .u64))]
noncomputable def F (x:ASs aS) (y:Bs bS):Brn Res:=brn (r x.1 y.1 y.2.1 y.2.2.1)
theorem good (x:ASs aS) (y:Bs bS) (h:(F x y).res.1=true):Good Tryz.prog 91 (ASs.mk aS x) (Bs.mk bS y) (F x y).res.2:=
 aF hE0 (aA _) Tryz.func91 ok cK aj (run x.1 y.1 y.2.1 y.2.2.1) (rel x.1 y.1 y.2.1 y.2.2.1) h
noncomputable def ent:Ent Tryz.prog:=⟨91,shF aS bS F,aB good⟩
end iJ
namespace gM
abbrev X:Type:=Nat×((List (List Int))×(Option ai)×(List (List Int)))×(Nat×Nat×(List (List Int))×(Option ai)×(List (List Int))×(Bool×List (List Int)))
noncomputable def pu (x:(List (List Int))×(Option ai)×(List (List Int))):Res:=⟨[.nil],[some ⟨.sl (.arr 4 (.int .u64)),x.1⟩,some ⟨.ref au,x.2.1⟩,some ⟨.sl (.arr 4 (.int .u64)),x.2.2⟩],[]⟩
noncomputable def pq (x:Nat×Nat×(List (List Int))×(Option ai)×(List (List Int))×(Bool×List (List Int))):Res:=⟨[.vs 1000003 (.arr 4 (.int .u64)) [] x.1 x.2.1],[some ⟨.sl (.arr 4 (.int .u64)),x.2.2.1⟩,some ⟨.ref au,x.2.2.2.1⟩,some ⟨.sl (.arr 4 (.int .u64)),x.2.2.2.2.1⟩],[⟨.dyn (.arr 4 (.int .u64)),x.2.2.2.2.2⟩]⟩
noncomputable def res (x:X):Res:=bif Nat.beq x.1 0 then pu x.2.1 else (pq x.2.2)
noncomputable def brn (w:Bool×X):Brn Res:= .ite (Nat.beq w.2.1 0) (.one w.1 (pu w.2.2.1)) (.one w.1 (pq w.2.2.2))
theorem aj (w:Bool×X):(brn w).res=(w.1,res w.2):=by
 cases h0:Nat.beq w.2.1 0 with
 |true=>simp only [brn,res,Brn.res,h0,cond_true,cond_false]
 |false=>
  simp only [brn,res,Brn.res,h0,cond_true,cond_false]
abbrev sh0:List (Nat×Sh):= [(0,.p (.ref au)),(2,.clo 91 [(1000000,.sl (.arr 4 (.int .u64))),(1000001,.ref au),(1000002,.sl (.arr 4 (.int .u64)))]),(6,.nil),(7,.va 500000 (.arr 4 (.int .u64))),(9,.p (.int .i64)),(10,.p (.int .i64))]
abbrev bx0:List (Nat×Ty):= [(500000,.dyn (.arr 4 (.int .u64))),(1000000,.sl (.arr 4 (.int .u64))),(1000001,.ref au),(1000002,.sl (.arr 4 (.int .u64)))]
abbrev aW:List (Nat×Ty):= [(500000,.dyn (.arr 4 (.int .u64))),(1000000,.sl (.arr 4 (.int .u64))),(1000001,.ref au),(1000002,.sl (.arr 4 (.int .u64)))]
abbrev aM:List (Nat×Sh):= []
abbrev aN:List (Nat×Ty):= []
abbrev bC:List (Nat×Ty):= []
abbrev X0:Type:=(Option ai)×Unit×Unit×Unit×Int×Int×Unit
abbrev Y0:Type:=(Bool×List (List Int))×(List (List Int))×(Option ai)×(List (List Int))×Unit
abbrev U0:Type:=Unit
abbrev V0:Type:=Unit
noncomputable def g0 {Z:Type} (rq:Bool→Z→Z) (kn:X0→Y0→Z) (ke:Nat→X0→Y0→Z) (kr:U0→V0→Z) (x:X0) (y:Y0):Z:=
lt (ilt x.2.2.2.2.2.1 x.2.2.2.2.1) fun v1512=>
bif v1512 then
lt (iJ.r x.2.2.2.2.2.1 y.2.1 y.2.2.1 y.2.2.2.1) fun w1513=>
rq w1513.1<|
lt (y.1.1&&false) fun (v1514:Bool)=>
lt (y.1.2++ [w1513.2.1]) fun (v1515:(List (List Int)))=>
rq (nle ((2*(y.1.2.length+1)+512)*32) 70368744177664)<|
lt (IntKind.i64.wrap (x.2.2.2.2.2.1+1)) fun v1516=>
kn (x.1,(),(),(),x.2.2.2.2.1,v1516,()) ((v1514,v1515),w1513.2.2.1,w1513.2.2.2.1,w1513.2.2.2.2,())
else
ke 0 (x.1,(),(),(),x.2.2.2.2.1,x.2.2.2.2.2.1,()) (y.1,y.2.1,y.2.2.1,y.2.2.2.1,())
noncomputable def fu0 (x:X0) (y:Y0):Nat:=(x.2.2.2.2.1 - x.2.2.2.2.2.1).toNat+1
noncomputable def l0 (x:X0) (y:Y0):Bool×Nat×X0×Y0×U0×V0:=rounds (fun rq kn ke kr x y=>g0 rq kn ke kr x y) () () (fu0 x y) x y
noncomputable def g {Z:Type} (rq:Bool→Z→Z) (rt:X→Z) (gx:(Option ai)) (n:Int) (b:(List (List Int))) (bx:(Option ai)) (bx1:(List (List Int))):Z:=
lt (gM.l0 (gx,(),(),(),n,0,()) ((true,[]),b,bx,bx1,())) fun w1517=>
rq w1517.1<|
lt (fB.r w1517.2.2.1.1 w1517.2.2.2.1.1.2) fun w1518=>
bif Nat.beq w1518.2.1 0 then
rq w1518.1<|
rt (0,(w1517.2.2.2.1.2.1,w1517.2.2.2.1.2.2.1,w1517.2.2.2.1.2.2.2.1),(0,0,[],none,[],(true,[])))
else
rq w1518.1<|
rt (1,([],none,[]),(w1518.2.2.2.1,w1518.2.2.2.2.1,w1517.2.2.2.1.2.1,w1517.2.2.2.1.2.2.1,w1517.2.2.2.1.2.2.2.1,w1518.2.2.2.2.2))
noncomputable def r (gx:(Option ai)) (n:Int) (b:(List (List Int))) (bx:(Option ai)) (bx1:(List (List Int))):Bool×X:=g chk (fun x=>(true,x)) gx n b bx bx1
noncomputable def D:aP:=Dof (P:=Tryz.prog) [iJ.ent,fB.ent]
noncomputable def tab:List (Nat×LE Res):= [(4,.typed (fH 23 sh0 bx0 aW aM aN (bf [1] (rounds (fun rq kn ke kr x y=>g0 rq kn ke kr x y) () ()) fu0)))]
set_option maxRecDepth 100000 in
theorem run (gx:(Option ai)) (n:Int) (b:(List (List Int))) (bx:(Option ai)) (bx1:(List (List Int))):aQ E0 [false] D (aJ E0 D tab 9) Tryz.f86 (codeOf Tryz.f86) [.val ⟨.ref au,gx⟩,.val ⟨.int .i64,n⟩,.clo 91 [.pb 1000000 (.sl (.arr 4 (.int .u64))) [],.pb 1000001 (.ref au) [],.pb 1000002 (.sl (.arr 4 (.int .u64))) []]] [⟨.sl (.arr 4 (.int .u64)),b⟩,⟨.ref au,bx⟩,⟨.sl (.arr 4 (.int .u64)),bx1⟩]=g (fun c z=>req c z) (fun x=>some (res x)) gx n b bx bx1:=by kernel_rfl
theorem rel (gx:(Option ai)) (n:Int) (b:(List (List Int))) (bx:(Option ai)) (bx1:(List (List Int))):J (fun w z=>z=some (res w)) (g chk (fun x=>(true,x)) gx n b bx bx1) (g (fun c z=>req c z) (fun x=>some (res x)) gx n b bx bx1):=by
 unfold g
 with_reducible repeat (first|(apply J.lt; intro _)|apply J.rq|apply J.bif|exact J.rt rfl)
set_option maxRecDepth 100000 in
theorem bG (x:ShX sh0) (y:BxX bx0) (kn:ShX sh0→BxX bx0→Option Res) (ke:Nat→ShX sh0→BxX bx0→Option Res) (kr:ShX aM→BxX aN→Option Res):d9 E0 D (aJ E0 D tab 8) (aD (codeOf Tryz.f86) 0) (inj 23 sh0 bx0 x y) (dN sh0 bx0 aW aM aN bC kn ke kr)=g0 (fun c z=>req c z) kn ke kr x y:=by kernel_rfl
theorem cB:Nonempty (Told E0 D tab Tryz.f86.ntmps (aD (codeOf Tryz.f86) 0) 23 sh0 bx0 aW aM aN (bf [1] (rounds (fun rq kn ke kr x y=>g0 rq kn ke kr x y) () ()) fu0)):=
 dh (sh:=sh0) (bx:=bx0) (ord:=aW) (shR:=aM) (bxR:=aN) bC 8 (by kernel_rfl) (by kernel_rfl) (by kernel_rfl) [1] fu0 () () (fun rq kn ke kr x y=>g0 rq kn ke kr x y) (fun rq kn ke kr x y=>g0 rq kn ke kr x y) (bG) (by
  intro φ kn1 kn2 ke1 ke2 kr1 kr2 h1 h2 h3 x y
  simp only [g0]
  with_reducible repeat (first|(apply J.lt; intro _)|apply J.rq|apply J.bif|exact h1 _ _|exact h2 _ (by decide) _ _|exact h3 (by decide) _ _))
theorem cK:fQ E0 D tab Tryz.f86.ntmps (codeOf Tryz.f86):=bY (bs:= [aD (codeOf Tryz.f86) 0]) (by kernel_rfl) (aK (cZ (by kernel_rfl) (cB)) bn)
theorem ok:dD Tryz.f86=true:=by kernel_rfl
abbrev aS:List AS:= [.one (.val (.ref au)),.one (.val (.int .i64)),.clo 91 [.pb 1000000 (.sl (.arr 4 (.int .u64))) [],.pb 1000001 (.ref au) [],.pb 1000002 (.sl (.arr 4 (.int .u64))) []]]
abbrev bS:List Ty:= [.sl (.arr 4 (.int .u64)),.ref au,.sl (.arr 4 (.int .u64))]
noncomputable def F (x:ASs aS) (y:Bs bS):Brn Res:=brn (r x.1 x.2.1 y.1 y.2.1 y.2.2.1)
theorem good (x:ASs aS) (y:Bs bS) (h:(F x y).res.1=true):Good Tryz.prog 86 (ASs.mk aS x) (Bs.mk bS y) (F x y).res.2:=
 aF hE0 (aA _) Tryz.func86 ok cK aj (run x.1 x.2.1 y.1 y.2.1 y.2.2.1) (rel x.1 x.2.1 y.1 y.2.1 y.2.2.1) h
noncomputable def ent:Ent Tryz.prog:=⟨86,shF aS bS F,aB good⟩
end gM
namespace qf
abbrev X:Type:=(List (List Int))
noncomputable def res (x:(List (List Int))):Res:=⟨[.val ⟨.sl (.arr 4 (.int .u64)),x⟩],[],[]⟩
noncomputable def brn (w:Bool×X):Brn Res:= .one w.1 (res w.2)
theorem aj (w:Bool×X):(brn w).res=(w.1,res w.2):=rfl
noncomputable def g {Z:Type} (rq:Bool→Z→Z) (rt:X→Z) (gx:(Option ai)) (a:(List (List Int))) (b:(List (List Int))):Z:=
lt (a.length:Int) fun (v1495:Int)=>
lt (b.length:Int) fun (v1496:Int)=>
lt (IntKind.i64.wrap (v1495+v1496)) fun v1497=>
lt (gM.r gx v1497 a gx b) fun w1519=>
bif Nat.beq w1519.2.1 0 then
rq w1519.1<|
rt []
else
rq w1519.1<|
rt ((w1519.2.2.2.2.2.2.2.2.2.drop w1519.2.2.2.1).take w1519.2.2.2.2.1)
noncomputable def r (gx:(Option ai)) (a:(List (List Int))) (b:(List (List Int))):Bool×X:=g chk (fun x=>(true,x)) gx a b
noncomputable def D:aP:=Dof (P:=Tryz.prog) [gM.ent]
noncomputable def tab:List (Nat×LE Res):= []
set_option maxRecDepth 100000 in
theorem run (gx:(Option ai)) (a:(List (List Int))) (b:(List (List Int))):aQ E0 [true] D (aJ E0 D tab 9) Tryz.f63 (codeOf Tryz.f63) [.val ⟨.ref au,gx⟩,.val ⟨.sl (.arr 4 (.int .u64)),a⟩,.val ⟨.sl (.arr 4 (.int .u64)),b⟩] []=g (fun c z=>req c z) (fun x=>some (res x)) gx a b:=by kernel_rfl
theorem rel (gx:(Option ai)) (a:(List (List Int))) (b:(List (List Int))):J (fun w z=>z=some (res w)) (g chk (fun x=>(true,x)) gx a b) (g (fun c z=>req c z) (fun x=>some (res x)) gx a b):=by
 unfold g
 with_reducible repeat (first|(apply J.lt; intro _)|apply J.rq|apply J.bif|exact J.rt rfl)
theorem ok:dD Tryz.f63=true:=by kernel_rfl
abbrev aS:List AS:= [.one (.val (.ref au)),.one (.val (.sl (.arr 4 (.int .u64)))),.one (.val (.sl (.arr 4 (.int .u64))))]
abbrev bS:List Ty:= []
noncomputable def F (x:ASs aS) (y:Bs bS):Brn Res:=brn (r x.1 x.2.1 x.2.2.1)
theorem good (x:ASs aS) (y:Bs bS) (h:(F x y).res.1=true):Good Tryz.prog 63 (ASs.mk aS x) (Bs.mk bS y) (F x y).res.2:=
 aF hE0 (aA _) Tryz.func63 ok aO aj (run x.1 x.2.1 x.2.2.1) (rel x.1 x.2.1 x.2.2.1) h
noncomputable def ent:Ent Tryz.prog:=⟨63,shF aS bS F,aB good⟩
end qf
end Go.Own
