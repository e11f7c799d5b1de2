/- What functions compute, printed by wip/gen/gen2.py. -/
import Derived.Test.YtapkilfcibkphaaGreatG5
set_option linter.unusedVariables false
set_option linter.unusedSimpArgs false
set_option maxRecDepth 100000
noncomputable section
namespace Go.Own
open Go.Proofs Go.Proofs.YtapkilfcibkphaaGreat
namespace jG
abbrev X:Type:=Nat×((Option aj)×(List (List Int))×Int×(List Int))×(Nat×Nat×(Option aj)×(List (List Int))×Int×(List Int)×(Bool×List (List Int)))
def pR (x:(Option aj)×(List (List Int))×Int×(List Int)):Res:=⟨[.nil],[some ⟨.ref au,x.1⟩,some ⟨.sl (.arr 4 (.int .u64)),x.2.1⟩,some ⟨.int .i64,x.2.2.1⟩,some ⟨.arr 4 (.int .u64),x.2.2.2⟩],[]⟩
def pQ (x:Nat×Nat×(Option aj)×(List (List Int))×Int×(List Int)×(Bool×List (List Int))):Res:=⟨[.vs 1000004 (.arr 4 (.int .u64)) [] x.1 x.2.1],[some ⟨.ref au,x.2.2.1⟩,some ⟨.sl (.arr 4 (.int .u64)),x.2.2.2.1⟩,some ⟨.int .i64,x.2.2.2.2.1⟩,some ⟨.arr 4 (.int .u64),x.2.2.2.2.2.1⟩],[⟨.dyn (.arr 4 (.int .u64)),x.2.2.2.2.2.2⟩]⟩
def res (x:X):Res:=bif Nat.beq x.1 0 then pR x.2.1 else (pQ x.2.2)
def brn (w:Bool×X):Brn Res:= .ite (Nat.beq w.2.1 0) (.one w.1 (pR w.2.2.1)) (.one w.1 (pQ w.2.2.2))
theorem dA (w:Bool×X):(brn w).res=(w.1,res w.2):=by
 cases h0:Nat.beq w.2.1 0 with
 |true=>simp only [brn,res,Brn.res,h0,cond_true,cond_false]
 |false=>
  simp only [brn,res,Brn.res,h0,cond_true,cond_false]
abbrev sh0:List (Nat×Sh):= [(0,.p (.ref au)),(2,.clo 91 [(1000000,.ref au),(1000001,.sl (.arr 4 (.int .u64))),(1000002,.int .i64),(1000003,.arr 4 (.int .u64))]),(6,.nil),(7,.va 500000 (.arr 4 (.int .u64))),(9,.p (.int .i64)),(10,.p (.int .i64))]
abbrev bx0:List (Nat×Ty):= [(500000,.dyn (.arr 4 (.int .u64))),(1000000,.ref au),(1000001,.sl (.arr 4 (.int .u64))),(1000002,.int .i64),(1000003,.arr 4 (.int .u64))]
abbrev aZ:List (Nat×Ty):= [(500000,.dyn (.arr 4 (.int .u64))),(1000000,.ref au),(1000001,.sl (.arr 4 (.int .u64))),(1000002,.int .i64),(1000003,.arr 4 (.int .u64))]
abbrev aY:List (Nat×Sh):= []
abbrev bf:List (Nat×Ty):= []
abbrev bU:List (Nat×Ty):= []
abbrev X0:Type:=(Option aj)×Unit×Unit×Unit×Int×Int×Unit
abbrev Y0:Type:=(Bool×List (List Int))×(Option aj)×(List (List Int))×Int×(List Int)×Unit
abbrev U0:Type:=Unit
abbrev V0:Type:=Unit
def g0 {Z:Type} (rq:Bool→Z→Z) (kn:X0→Y0→Z) (ke:Nat→X0→Y0→Z) (kr:U0→V0→Z) (x:X0) (y:Y0):Z:=
lt (ilt x.2.2.2.2.2.1 x.2.2.2.2.1) fun v1417=>
bif v1417 then
lt (j5.r x.2.2.2.2.2.1 y.2.1 y.2.2.1 y.2.2.2.1 y.2.2.2.2.1) fun w1418=>
rq w1418.1<|
lt (y.1.1&&false) fun (v1419:Bool)=>
lt (y.1.2++ [w1418.2.1]) fun (v1420:(List (List Int)))=>
rq (nle ((2*(y.1.2.length+1)+512)*32) 70368744177664)<|
lt (IntKind.i64.wrap (x.2.2.2.2.2.1+1)) fun v1421=>
kn (x.1,(),(),(),x.2.2.2.2.1,v1421,()) ((v1419,v1420),w1418.2.2.1,w1418.2.2.2.1,w1418.2.2.2.2.1,w1418.2.2.2.2.2,())
else
ke 0 (x.1,(),(),(),x.2.2.2.2.1,x.2.2.2.2.2.1,()) (y.1,y.2.1,y.2.2.1,y.2.2.2.1,y.2.2.2.2.1,())
def fu0 (x:X0) (y:Y0):Nat:=(x.2.2.2.2.1 - x.2.2.2.2.2.1).toNat+1
def l0 (x:X0) (y:Y0):Bool×Nat×X0×Y0×U0×V0:=rounds (fun rq kn ke kr x y=>g0 rq kn ke kr x y) () () (fu0 x y) x y
def g {Z:Type} (rq:Bool→Z→Z) (rt:X→Z) (gx:(Option aj)) (n:Int) (b:(Option aj)) (bx:(List (List Int))) (bx1:Int) (bx11:(List Int)):Z:=
lt (jG.l0 (gx,(),(),(),n,0,()) ((true,[]),b,bx,bx1,bx11,())) fun w1422=>
rq w1422.1<|
lt (fA.r w1422.2.2.1.1 w1422.2.2.2.1.1.2) fun w1472=>
bif Nat.beq w1472.2.1 0 then
rq w1472.1<|
rt (0,(w1422.2.2.2.1.2.1,w1422.2.2.2.1.2.2.1,w1422.2.2.2.1.2.2.2.1,w1422.2.2.2.1.2.2.2.2.1),(0,0,none,[],0,[0,0,0,0],(true,[])))
else
rq w1472.1<|
rt (1,(none,[],0,[0,0,0,0]),(w1472.2.2.2.1,w1472.2.2.2.2.1,w1422.2.2.2.1.2.1,w1422.2.2.2.1.2.2.1,w1422.2.2.2.1.2.2.2.1,w1422.2.2.2.1.2.2.2.2.1,w1472.2.2.2.2.2))
def r (gx:(Option aj)) (n:Int) (b:(Option aj)) (bx:(List (List Int))) (bx1:Int) (bx11:(List Int)):Bool×X:=g chk (fun x=>(true,x)) gx n b bx bx1 bx11
def D:aI:=Dof (P:=Tryz.prog) [j5.ent,fA.ent]
abbrev lf0:=bY (R:=Res) [1] (rounds (fun rq kn ke kr x y=>g0 rq kn ke kr x y) () ()) fu0
def tab:List (Nat×LE Res):= [(4,.typed (eB 23 sh0 bx0 aZ aY bf (lf0)))]
theorem run (gx:(Option aj)) (n:Int) (b:(Option aj)) (bx:(List (List Int))) (bx1:Int) (bx11:(List Int)):iD E0 [false] D (iR E0 D tab 9) Tryz.f88 (codeOf Tryz.f88) [.val ⟨.ref au,gx⟩,.val ⟨.int .i64,n⟩,.clo 91 [.pb 1000000 (.ref au) [],.pb 1000001 (.sl (.arr 4 (.int .u64))) [],.pb 1000002 (.int .i64) [],.pb 1000003 (.arr 4 (.int .u64)) []]] [⟨.ref au,b⟩,⟨.sl (.arr 4 (.int .u64)),bx⟩,⟨.int .i64,bx1⟩,⟨.arr 4 (.int .u64),bx11⟩]=g (fun c z=>req c z) (fun x=>some (res x)) gx n b bx bx1 bx11:=by kernel_rfl
theorem rel (gx:(Option aj)) (n:Int) (b:(Option aj)) (bx:(List (List Int))) (bx1:Int) (bx11:(List Int)):J (fun w z=>z=some (res w)) (g chk (fun x=>(true,x)) gx n b bx bx1 bx11) (g (fun c z=>req c z) (fun x=>some (res x)) gx n b bx bx1 bx11):=by
 unfold g
 with_reducible repeat (first|(apply J.lt; intro _)|apply J.rq|apply J.bif|exact J.rt rfl)
theorem bR:Nonempty (Told E0 D tab Tryz.f88.ntmps (aF (codeOf Tryz.f88) 0) 23 sh0 bx0 aZ aY bf lf0):=eX (sh:=sh0) (bx:=bx0) (ord:=aZ) (shR:=aY) (bxR:=bf) bU (by kernel_rfl) (by kernel_rfl) (by kernel_rfl) [1] _ _ _ @g0 (fun _ _ _ _ _=>by kernel_rfl) (by
  intro _ _ _ _ _ _ _ h i k x y
  simp only [g0]
  with_reducible repeat (first|(apply J.lt; intro _)|apply J.rq|apply J.bif|exact h _ _|exact i _ (by decide) _ _|exact k (by decide) _ _))
theorem bT:fF E0 D tab Tryz.f88.ntmps (codeOf Tryz.f88):=bN (bs:= [aF (codeOf Tryz.f88) 0]) (by kernel_rfl) (aD (bI (by kernel_rfl) (bR)) aL)
theorem ok:oq Tryz.f88=true:=by kernel_rfl
abbrev aS:List AS:= [.one (.val (.ref au)),.one (.val (.int .i64)),.clo 91 [.pb 1000000 (.ref au) [],.pb 1000001 (.sl (.arr 4 (.int .u64))) [],.pb 1000002 (.int .i64) [],.pb 1000003 (.arr 4 (.int .u64)) []]]
abbrev bS:List Ty:= [.ref au,.sl (.arr 4 (.int .u64)),.int .i64,.arr 4 (.int .u64)]
def F (x:ASs aS) (y:Bs bS):Brn Res:=brn (r x.1 x.2.1 y.1 y.2.1 y.2.2.1 y.2.2.2.1)
theorem good (x:ASs aS) (y:Bs bS) (h:(F x y).res.1=true):Good Tryz.prog 88 (ASs.mk aS x) (Bs.mk bS y) (F x y).res.2:=
 fZ hE0 (ay _) Tryz.func88 ok bT dA (run x.1 x.2.1 y.1 y.2.1 y.2.2.1 y.2.2.2.1) (rel x.1 x.2.1 y.1 y.2.1 y.2.2.1 y.2.2.2.1) h
def ent:Ent Tryz.prog:=⟨88,shF aS bS F,bX good⟩
end jG
namespace mr
abbrev X:Type:=(List (List Int))
def res (x:(List (List Int))):Res:=⟨[.val ⟨.sl (.arr 4 (.int .u64)),x⟩],[],[]⟩
def g {Z:Type} (rq:Bool→Z→Z) (rt:X→Z) (gx:(Option aj)) (f:(List (List Int))) (byx:(List Int)) (up:Int):Z:=
lt (f.length:Int) fun (v1404:Int)=>
lt (IntKind.i64.wrap (v1404+up)) fun v1405=>
lt (jG.r gx v1405 gx f up byx) fun w1473=>
bif Nat.beq w1473.2.1 0 then
rq w1473.1<|
rt []
else
rq w1473.1<|
rt ((w1473.2.2.2.2.2.2.2.2.2.2.drop w1473.2.2.2.1).take w1473.2.2.2.2.1)
def r (gx:(Option aj)) (f:(List (List Int))) (byx:(List Int)) (up:Int):Bool×X:=g chk (fun x=>(true,x)) gx f byx up
def D:aI:=Dof (P:=Tryz.prog) [jG.ent]
def tab:List (Nat×LE Res):= []
abbrev aS:List AS:= [.one (.val (.ref au)),.one (.val (.sl (.arr 4 (.int .u64)))),.one (.val (.arr 4 (.int .u64))),.one (.val (.int .i64))]
abbrev bS:List Ty:= []
def ent:Ent Tryz.prog:=bO (D:=D) (tab:=tab) hE0 (ay _) [true] Tryz.func61 (by kernel_rfl) aG aS bS res (fun x y=>r x.1 x.2.1 x.2.2.1 x.2.2.2.1) (fun x y=>g (fun c z=>req c z) (fun x=>some (res x)) x.1 x.2.1 x.2.2.1 x.2.2.2.1) (fun _ _=>by kernel_rfl) (by
 intro x y
 show J _ (g chk (fun x=>(true,x)) x.1 x.2.1 x.2.2.1 x.2.2.2.1) (g (fun c z=>req c z) (fun x=>some (res x)) x.1 x.2.1 x.2.2.1 x.2.2.2.1)
 unfold g
 with_reducible repeat (first|(apply J.lt; intro _)|apply J.rq|apply J.bif|exact J.rt rfl))
end mr
namespace nP
abbrev X:Type:=(List Int)×(Option aj)×(List (List Int))×(List (List Int))
def res (x:(List Int)×(Option aj)×(List (List Int))×(List (List Int))):Res:=⟨[.val ⟨.arr 4 (.int .u64),x.1⟩],[some ⟨.ref au,x.2.1⟩,some ⟨.sl (.arr 4 (.int .u64)),x.2.2.1⟩,some ⟨.sl (.arr 4 (.int .u64)),x.2.2.2⟩],[]⟩
def g {Z:Type} (rq:Bool→Z→Z) (rt:X→Z) (kx:Int) (b:(Option aj)) (bx:(List (List Int))) (bx1:(List (List Int))):Z:=
lt (ng.r bx kx) fun w1480=>
rq w1480.1<|
lt (ng.r bx1 kx) fun w1481=>
rq w1481.1<|
lt (iW.r b w1480.2 w1481.2) fun w1482=>
rq w1482.1<|
rt (w1482.2,b,bx,bx1)
def r (kx:Int) (b:(Option aj)) (bx:(List (List Int))) (bx1:(List (List Int))):Bool×X:=g chk (fun x=>(true,x)) kx b bx bx1
def D:aI:=Dof (P:=Tryz.prog) [ng.ent,iW.ent]
def tab:List (Nat×LE Res):= []
abbrev aS:List AS:= [.one (.val (.int .i64)),.one (.pb 1000000 (.ref au) []),.one (.pb 1000001 (.sl (.arr 4 (.int .u64))) []),.one (.pb 1000002 (.sl (.arr 4 (.int .u64))) [])]
abbrev bS:List Ty:= [.ref au,.sl (.arr 4 (.int .u64)),.sl (.arr 4 (.int .u64))]
def ent:Ent Tryz.prog:=bO (D:=D) (tab:=tab) hE0 (ay _) [true] Tryz.func89 (by kernel_rfl) aG aS bS res (fun x y=>r x.1 y.1 y.2.1 y.2.2.1) (fun x y=>g (fun c z=>req c z) (fun x=>some (res x)) x.1 y.1 y.2.1 y.2.2.1) (fun _ _=>by kernel_rfl) (by
 intro x y
 show J _ (g chk (fun x=>(true,x)) x.1 y.1 y.2.1 y.2.2.1) (g (fun c z=>req c z) (fun x=>some (res x)) x.1 y.1 y.2.1 y.2.2.1)
 unfold g
 with_reducible repeat (first|(apply J.lt; intro _)|apply J.rq|apply J.bif|exact J.rt rfl))
end nP
namespace gZ
abbrev X:Type:=Nat×((Option aj)×(List (List Int))×(List (List Int)))×(Nat×Nat×(Option aj)×(List (List Int))×(List (List Int))×(Bool×List (List Int)))
def pR (x:(Option aj)×(List (List Int))×(List (List Int))):Res:=⟨[.nil],[some ⟨.ref au,x.1⟩,some ⟨.sl (.arr 4 (.int .u64)),x.2.1⟩,some ⟨.sl (.arr 4 (.int .u64)),x.2.2⟩],[]⟩
def pQ (x:Nat×Nat×(Option aj)×(List (List Int))×(List (List Int))×(Bool×List (List Int))):Res:=⟨[.vs 1000003 (.arr 4 (.int .u64)) [] x.1 x.2.1],[some ⟨.ref au,x.2.2.1⟩,some ⟨.sl (.arr 4 (.int .u64)),x.2.2.2.1⟩,some ⟨.sl (.arr 4 (.int .u64)),x.2.2.2.2.1⟩],[⟨.dyn (.arr 4 (.int .u64)),x.2.2.2.2.2⟩]⟩
def res (x:X):Res:=bif Nat.beq x.1 0 then pR x.2.1 else (pQ x.2.2)
def brn (w:Bool×X):Brn Res:= .ite (Nat.beq w.2.1 0) (.one w.1 (pR w.2.2.1)) (.one w.1 (pQ w.2.2.2))
theorem dA (w:Bool×X):(brn w).res=(w.1,res w.2):=by
 cases h0:Nat.beq w.2.1 0 with
 |true=>simp only [brn,res,Brn.res,h0,cond_true,cond_false]
 |false=>
  simp only [brn,res,Brn.res,h0,cond_true,cond_false]
abbrev sh0:List (Nat×Sh):= [(0,.p (.ref au)),(2,.clo 89 [(1000000,.ref au),(1000001,.sl (.arr 4 (.int .u64))),(1000002,.sl (.arr 4 (.int .u64)))]),(6,.nil),(7,.va 500000 (.arr 4 (.int .u64))),(9,.p (.int .i64)),(10,.p (.int .i64))]
abbrev bx0:List (Nat×Ty):= [(500000,.dyn (.arr 4 (.int .u64))),(1000000,.ref au),(1000001,.sl (.arr 4 (.int .u64))),(1000002,.sl (.arr 4 (.int .u64)))]
abbrev aZ:List (Nat×Ty):= [(500000,.dyn (.arr 4 (.int .u64))),(1000000,.ref au),(1000001,.sl (.arr 4 (.int .u64))),(1000002,.sl (.arr 4 (.int .u64)))]
abbrev aY:List (Nat×Sh):= []
abbrev bf:List (Nat×Ty):= []
abbrev bU:List (Nat×Ty):= []
abbrev X0:Type:=(Option aj)×Unit×Unit×Unit×Int×Int×Unit
abbrev Y0:Type:=(Bool×List (List Int))×(Option aj)×(List (List Int))×(List (List Int))×Unit
abbrev U0:Type:=Unit
abbrev V0:Type:=Unit
def g0 {Z:Type} (rq:Bool→Z→Z) (kn:X0→Y0→Z) (ke:Nat→X0→Y0→Z) (kr:U0→V0→Z) (x:X0) (y:Y0):Z:=
lt (ilt x.2.2.2.2.2.1 x.2.2.2.2.1) fun v1485=>
bif v1485 then
lt (nP.r x.2.2.2.2.2.1 y.2.1 y.2.2.1 y.2.2.2.1) fun w1486=>
rq w1486.1<|
lt (y.1.1&&false) fun (v1487:Bool)=>
lt (y.1.2++ [w1486.2.1]) fun (v1488:(List (List Int)))=>
rq (nle ((2*(y.1.2.length+1)+512)*32) 70368744177664)<|
lt (IntKind.i64.wrap (x.2.2.2.2.2.1+1)) fun v1489=>
kn (x.1,(),(),(),x.2.2.2.2.1,v1489,()) ((v1487,v1488),w1486.2.2.1,w1486.2.2.2.1,w1486.2.2.2.2,())
else
ke 0 (x.1,(),(),(),x.2.2.2.2.1,x.2.2.2.2.2.1,()) (y.1,y.2.1,y.2.2.1,y.2.2.2.1,())
def fu0 (x:X0) (y:Y0):Nat:=(x.2.2.2.2.1 - x.2.2.2.2.2.1).toNat+1
def l0 (x:X0) (y:Y0):Bool×Nat×X0×Y0×U0×V0:=rounds (fun rq kn ke kr x y=>g0 rq kn ke kr x y) () () (fu0 x y) x y
def g {Z:Type} (rq:Bool→Z→Z) (rt:X→Z) (gx:(Option aj)) (n:Int) (b:(Option aj)) (bx:(List (List Int))) (bx1:(List (List Int))):Z:=
lt (gZ.l0 (gx,(),(),(),n,0,()) ((true,[]),b,bx,bx1,())) fun w1490=>
rq w1490.1<|
lt (fA.r w1490.2.2.1.1 w1490.2.2.2.1.1.2) fun w1491=>
bif Nat.beq w1491.2.1 0 then
rq w1491.1<|
rt (0,(w1490.2.2.2.1.2.1,w1490.2.2.2.1.2.2.1,w1490.2.2.2.1.2.2.2.1),(0,0,none,[],[],(true,[])))
else
rq w1491.1<|
rt (1,(none,[],[]),(w1491.2.2.2.1,w1491.2.2.2.2.1,w1490.2.2.2.1.2.1,w1490.2.2.2.1.2.2.1,w1490.2.2.2.1.2.2.2.1,w1491.2.2.2.2.2))
def r (gx:(Option aj)) (n:Int) (b:(Option aj)) (bx:(List (List Int))) (bx1:(List (List Int))):Bool×X:=g chk (fun x=>(true,x)) gx n b bx bx1
def D:aI:=Dof (P:=Tryz.prog) [nP.ent,fA.ent]
abbrev lf0:=bY (R:=Res) [1] (rounds (fun rq kn ke kr x y=>g0 rq kn ke kr x y) () ()) fu0
def tab:List (Nat×LE Res):= [(4,.typed (eB 23 sh0 bx0 aZ aY bf (lf0)))]
theorem run (gx:(Option aj)) (n:Int) (b:(Option aj)) (bx:(List (List Int))) (bx1:(List (List Int))):iD E0 [false] D (iR E0 D tab 9) Tryz.f88 (codeOf Tryz.f88) [.val ⟨.ref au,gx⟩,.val ⟨.int .i64,n⟩,.clo 89 [.pb 1000000 (.ref au) [],.pb 1000001 (.sl (.arr 4 (.int .u64))) [],.pb 1000002 (.sl (.arr 4 (.int .u64))) []]] [⟨.ref au,b⟩,⟨.sl (.arr 4 (.int .u64)),bx⟩,⟨.sl (.arr 4 (.int .u64)),bx1⟩]=g (fun c z=>req c z) (fun x=>some (res x)) gx n b bx bx1:=by kernel_rfl
theorem rel (gx:(Option aj)) (n:Int) (b:(Option aj)) (bx:(List (List Int))) (bx1:(List (List Int))):J (fun w z=>z=some (res w)) (g chk (fun x=>(true,x)) gx n b bx bx1) (g (fun c z=>req c z) (fun x=>some (res x)) gx n b bx bx1):=by
 unfold g
 with_reducible repeat (first|(apply J.lt; intro _)|apply J.rq|apply J.bif|exact J.rt rfl)
theorem bR:Nonempty (Told E0 D tab Tryz.f88.ntmps (aF (codeOf Tryz.f88) 0) 23 sh0 bx0 aZ aY bf lf0):=eX (sh:=sh0) (bx:=bx0) (ord:=aZ) (shR:=aY) (bxR:=bf) bU (by kernel_rfl) (by kernel_rfl) (by kernel_rfl) [1] _ _ _ @g0 (fun _ _ _ _ _=>by kernel_rfl) (by
  intro _ _ _ _ _ _ _ h i k x y
  simp only [g0]
  with_reducible repeat (first|(apply J.lt; intro _)|apply J.rq|apply J.bif|exact h _ _|exact i _ (by decide) _ _|exact k (by decide) _ _))
theorem bT:fF E0 D tab Tryz.f88.ntmps (codeOf Tryz.f88):=bN (bs:= [aF (codeOf Tryz.f88) 0]) (by kernel_rfl) (aD (bI (by kernel_rfl) (bR)) aL)
theorem ok:oq Tryz.f88=true:=by kernel_rfl
abbrev aS:List AS:= [.one (.val (.ref au)),.one (.val (.int .i64)),.clo 89 [.pb 1000000 (.ref au) [],.pb 1000001 (.sl (.arr 4 (.int .u64))) [],.pb 1000002 (.sl (.arr 4 (.int .u64))) []]]
abbrev bS:List Ty:= [.ref au,.sl (.arr 4 (.int .u64)),.sl (.arr 4 (.int .u64))]
def F (x:ASs aS) (y:Bs bS):Brn Res:=brn (r x.1 x.2.1 y.1 y.2.1 y.2.2.1)
theorem good (x:ASs aS) (y:Bs bS) (h:(F x y).res.1=true):Good Tryz.prog 88 (ASs.mk aS x) (Bs.mk bS y) (F x y).res.2:=
 fZ hE0 (ay _) Tryz.func88 ok bT dA (run x.1 x.2.1 y.1 y.2.1 y.2.2.1) (rel x.1 x.2.1 y.1 y.2.1 y.2.2.1) h
def ent:Ent Tryz.prog:=⟨88,shF aS bS F,bX good⟩
end gZ
namespace rV
abbrev X:Type:=Nat×(Unit)×(Nat×Nat×(Bool×List (List Int)))
def pR (x:Unit):Res:=⟨[.nil],[],[]⟩
def pQ (x:Nat×Nat×(Bool×List (List Int))):Res:=⟨[.vs 1000000 (.arr 4 (.int .u64)) [] x.1 x.2.1],[],[⟨.dyn (.arr 4 (.int .u64)),x.2.2⟩]⟩
def res (x:X):Res:=bif Nat.beq x.1 0 then pR x.2.1 else (pQ x.2.2)
def brn (w:Bool×X):Brn Res:= .ite (Nat.beq w.2.1 0) (.one w.1 (pR w.2.2.1)) (.one w.1 (pQ w.2.2.2))
theorem dA (w:Bool×X):(brn w).res=(w.1,res w.2):=by
 cases h0:Nat.beq w.2.1 0 with
 |true=>simp only [brn,res,Brn.res,h0,cond_true,cond_false]
 |false=>
  simp only [brn,res,Brn.res,h0,cond_true,cond_false]
def g {Z:Type} (rq:Bool→Z→Z) (rt:X→Z) (gx:(Option aj)) (a:(List (List Int))) (b:(List (List Int))):Z:=
lt (a.length:Int) fun (v1475:Int)=>
lt (b.length:Int) fun (v1476:Int)=>
lt (bif ilt v1475 v1476 then v1476 else v1475) fun (v1477:Int)=>
lt (gZ.r gx v1477 gx a b) fun w1492=>
bif Nat.beq w1492.2.1 0 then
rq w1492.1<|
rt (0,(),(0,0,(true,[])))
else
rq w1492.1<|
rt (1,(),(w1492.2.2.2.1,w1492.2.2.2.2.1,w1492.2.2.2.2.2.2.2.2))
def r (gx:(Option aj)) (a:(List (List Int))) (b:(List (List Int))):Bool×X:=g chk (fun x=>(true,x)) gx a b
def D:aI:=Dof (P:=Tryz.prog) [gZ.ent]
def tab:List (Nat×LE Res):= []
theorem run (gx:(Option aj)) (a:(List (List Int))) (b:(List (List Int))):iD E0 [false] D (iR E0 D tab 9) Tryz.f60 (codeOf Tryz.f60) [.val ⟨.ref au,gx⟩,.val ⟨.sl (.arr 4 (.int .u64)),a⟩,.val ⟨.sl (.arr 4 (.int .u64)),b⟩] []=g (fun c z=>req c z) (fun x=>some (res x)) gx a b:=by kernel_rfl
theorem rel (gx:(Option aj)) (a:(List (List Int))) (b:(List (List Int))):J (fun w z=>z=some (res w)) (g chk (fun x=>(true,x)) gx a b) (g (fun c z=>req c z) (fun x=>some (res x)) gx a b):=by
 unfold g
 with_reducible repeat (first|(apply J.lt; intro _)|apply J.rq|apply J.bif|exact J.rt rfl)
theorem ok:oq Tryz.f60=true:=by kernel_rfl
abbrev aS:List AS:= [.one (.val (.ref au)),.one (.val (.sl (.arr 4 (.int .u64)))),.one (.val (.sl (.arr 4 (.int .u64))))]
abbrev bS:List Ty:= []
def F (x:ASs aS) (y:Bs bS):Brn Res:=brn (r x.1 x.2.1 x.2.2.1)
theorem good (x:ASs aS) (y:Bs bS) (h:(F x y).res.1=true):Good Tryz.prog 60 (ASs.mk aS x) (Bs.mk bS y) (F x y).res.2:=
 fZ hE0 (ay _) Tryz.func60 ok aG dA (run x.1 x.2.1 x.2.2.1) (rel x.1 x.2.1 x.2.2.1) h
def ent:Ent Tryz.prog:=⟨60,shF aS bS F,bX good⟩
end rV
namespace iX
abbrev X:Type:=(List Int)×(List (List Int))×(Option aj)×(List (List Int))
def res (x:(List Int)×(List (List Int))×(Option aj)×(List (List Int))):Res:=⟨[.val ⟨.arr 4 (.int .u64),x.1⟩],[some ⟨.sl (.arr 4 (.int .u64)),x.2.1⟩,some ⟨.ref au,x.2.2.1⟩,some ⟨.sl (.arr 4 (.int .u64)),x.2.2.2⟩],[]⟩
abbrev sh0:List (Nat×Sh):= [(0,.p (.int .i64)),(1,.pb 1000000 (.sl (.arr 4 (.int .u64))) []),(2,.pb 1000001 (.ref au) []),(3,.pb 1000002 (.sl (.arr 4 (.int .u64))) []),(5,.pb 500000 (.arr 4 (.int .u64)) []),(6,.pb 500001 (.arr 4 (.int .u64)) []),(9,.p (.int .i64)),(10,.p (.int .i64))]
abbrev bx0:List (Nat×Ty):= [(500000,.arr 4 (.int .u64)),(500001,.arr 4 (.int .u64)),(1000000,.sl (.arr 4 (.int .u64))),(1000001,.ref au),(1000002,.sl (.arr 4 (.int .u64)))]
abbrev aZ:List (Nat×Ty):= [(500000,.arr 4 (.int .u64)),(500001,.arr 4 (.int .u64)),(1000000,.sl (.arr 4 (.int .u64))),(1000001,.ref au),(1000002,.sl (.arr 4 (.int .u64)))]
abbrev aY:List (Nat×Sh):= []
abbrev bf:List (Nat×Ty):= []
abbrev bU:List (Nat×Ty):= []
abbrev X0:Type:=Int×Unit×Unit×Unit×Unit×Unit×Int×Int×Unit
abbrev Y0:Type:=(List Int)×(List Int)×(List (List Int))×(Option aj)×(List (List Int))×Unit
abbrev U0:Type:=Unit
abbrev V0:Type:=Unit
def g0 {Z:Type} (rq:Bool→Z→Z) (kn:X0→Y0→Z) (ke:Nat→X0→Y0→Z) (kr:U0→V0→Z) (x:X0) (y:Y0):Z:=
lt (ilt x.2.2.2.2.2.2.2.1 x.2.2.2.2.2.2.1) fun v1502=>
bif v1502 then
lt (y.2.2.1.getD x.2.2.2.2.2.2.2.1.toNat [0,0,0,0]) fun (v1503:(List Int))=>
rq (ile (0:Int) x.2.2.2.2.2.2.2.1&&ilt x.2.2.2.2.2.2.2.1 (y.2.2.1.length:Int))<|
lt (IntKind.i64.wrap (x.1 - x.2.2.2.2.2.2.2.1)) fun v1504=>
lt (ng.r y.2.2.2.2.1 v1504) fun w1505=>
rq w1505.1<|
lt (iV.r y.2.2.2.1 v1503 w1505.2) fun w1506=>
rq w1506.1<|
lt (iW.r y.2.2.2.1 y.2.1 w1506.2) fun w1507=>
rq w1507.1<|
lt (IntKind.i64.wrap (x.2.2.2.2.2.2.2.1+1)) fun v1508=>
kn (x.1,(),(),(),(),(),x.2.2.2.2.2.2.1,v1508,()) (y.1,w1507.2,y.2.2.1,y.2.2.2.1,y.2.2.2.2.1,())
else
ke 0 (x.1,(),(),(),(),(),x.2.2.2.2.2.2.1,x.2.2.2.2.2.2.2.1,()) (y.1,y.2.1,y.2.2.1,y.2.2.2.1,y.2.2.2.2.1,())
def fu0 (x:X0) (y:Y0):Nat:=(x.2.2.2.2.2.2.1 - x.2.2.2.2.2.2.2.1).toNat+1
def l0 (x:X0) (y:Y0):Bool×Nat×X0×Y0×U0×V0:=rounds (fun rq kn ke kr x y=>g0 rq kn ke kr x y) () () (fu0 x y) x y
def g {Z:Type} (rq:Bool→Z→Z) (rt:X→Z) (kx:Int) (b:(List (List Int))) (bx:(Option aj)) (bx1:(List (List Int))):Z:=
lt (b.length:Int) fun (v1500:Int)=>
lt (iX.l0 (kx,(),(),(),(),(),v1500,0,()) ([0,0,0,0],[0,0,0,0],b,bx,bx1,())) fun w1509=>
rq w1509.1<|
rt (w1509.2.2.2.1.2.1,w1509.2.2.2.1.2.2.1,w1509.2.2.2.1.2.2.2.1,w1509.2.2.2.1.2.2.2.2.1)
def r (kx:Int) (b:(List (List Int))) (bx:(Option aj)) (bx1:(List (List Int))):Bool×X:=g chk (fun x=>(true,x)) kx b bx bx1
def D:aI:=Dof (P:=Tryz.prog) [ng.ent,iV.ent,iW.ent]
abbrev lf0:=bY (R:=Res) [1] (rounds (fun rq kn ke kr x y=>g0 rq kn ke kr x y) () ()) fu0
def tab:List (Nat×LE Res):= [(4,.typed (eB 29 sh0 bx0 aZ aY bf (lf0)))]
theorem bR:Nonempty (Told E0 D tab Tryz.f93.ntmps (aF (codeOf Tryz.f93) 0) 29 sh0 bx0 aZ aY bf lf0):=eX (sh:=sh0) (bx:=bx0) (ord:=aZ) (shR:=aY) (bxR:=bf) bU (by kernel_rfl) (by kernel_rfl) (by kernel_rfl) [1] _ _ _ @g0 (fun _ _ _ _ _=>by kernel_rfl) (by
  intro _ _ _ _ _ _ _ h i k x y
  simp only [g0]
  with_reducible repeat (first|(apply J.lt; intro _)|apply J.rq|apply J.bif|exact h _ _|exact i _ (by decide) _ _|exact k (by decide) _ _))
theorem bT:fF E0 D tab Tryz.f93.ntmps (codeOf Tryz.f93):=bN (bs:= [aF (codeOf Tryz.f93) 0]) (by kernel_rfl) (aD (bI (by kernel_rfl) (bR)) aL)
abbrev aS:List AS:= [.one (.val (.int .i64)),.one (.pb 1000000 (.sl (.arr 4 (.int .u64))) []),.one (.pb 1000001 (.ref au) []),.one (.pb 1000002 (.sl (.arr 4 (.int .u64))) [])]
abbrev bS:List Ty:= [.sl (.arr 4 (.int .u64)),.ref au,.sl (.arr 4 (.int .u64))]
def ent:Ent Tryz.prog:=bO (D:=D) (tab:=tab) hE0 (ay _) [true] Tryz.func93 (by kernel_rfl) bT aS bS res (fun x y=>r x.1 y.1 y.2.1 y.2.2.1) (fun x y=>g (fun c z=>req c z) (fun x=>some (res x)) x.1 y.1 y.2.1 y.2.2.1) (fun _ _=>by kernel_rfl) (by
 intro x y
 show J _ (g chk (fun x=>(true,x)) x.1 y.1 y.2.1 y.2.2.1) (g (fun c z=>req c z) (fun x=>some (res x)) x.1 y.1 y.2.1 y.2.2.1)
 unfold g
 with_reducible repeat (first|(apply J.lt; intro _)|apply J.rq|apply J.bif|exact J.rt rfl))
end iX
namespace gY
abbrev X:Type:=Nat×((List (List Int))×(Option aj)×(List (List Int)))×(Nat×Nat×(List (List Int))×(Option aj)×(List (List Int))×(Bool×List (List Int)))
def pR (x:(List (List Int))×(Option aj)×(List (List Int))):Res:=⟨[.nil],[some ⟨.sl (.arr 4 (.int .u64)),x.1⟩,some ⟨.ref au,x.2.1⟩,some ⟨.sl (.arr 4 (.int .u64)),x.2.2⟩],[]⟩
def pQ (x:Nat×Nat×(List (List Int))×(Option aj)×(List (List Int))×(Bool×List (List Int))):Res:=⟨[.vs 1000003 (.arr 4 (.int .u64)) [] x.1 x.2.1],[some ⟨.sl (.arr 4 (.int .u64)),x.2.2.1⟩,some ⟨.ref au,x.2.2.2.1⟩,some ⟨.sl (.arr 4 (.int .u64)),x.2.2.2.2.1⟩],[⟨.dyn (.arr 4 (.int .u64)),x.2.2.2.2.2⟩]⟩
def res (x:X):Res:=bif Nat.beq x.1 0 then pR x.2.1 else (pQ x.2.2)
def brn (w:Bool×X):Brn Res:= .ite (Nat.beq w.2.1 0) (.one w.1 (pR w.2.2.1)) (.one w.1 (pQ w.2.2.2))
theorem dA (w:Bool×X):(brn w).res=(w.1,res w.2):=by
 cases h0:Nat.beq w.2.1 0 with
 |true=>simp only [brn,res,Brn.res,h0,cond_true,cond_false]
 |false=>
  simp only [brn,res,Brn.res,h0,cond_true,cond_false]
abbrev sh0:List (Nat×Sh):= [(0,.p (.ref au)),(2,.clo 93 [(1000000,.sl (.arr 4 (.int .u64))),(1000001,.ref au),(1000002,.sl (.arr 4 (.int .u64)))]),(6,.nil),(7,.va 500000 (.arr 4 (.int .u64))),(9,.p (.int .i64)),(10,.p (.int .i64))]
abbrev bx0:List (Nat×Ty):= [(500000,.dyn (.arr 4 (.int .u64))),(1000000,.sl (.arr 4 (.int .u64))),(1000001,.ref au),(1000002,.sl (.arr 4 (.int .u64)))]
abbrev aZ:List (Nat×Ty):= [(500000,.dyn (.arr 4 (.int .u64))),(1000000,.sl (.arr 4 (.int .u64))),(1000001,.ref au),(1000002,.sl (.arr 4 (.int .u64)))]
abbrev aY:List (Nat×Sh):= []
abbrev bf:List (Nat×Ty):= []
abbrev bU:List (Nat×Ty):= []
abbrev X0:Type:=(Option aj)×Unit×Unit×Unit×Int×Int×Unit
abbrev Y0:Type:=(Bool×List (List Int))×(List (List Int))×(Option aj)×(List (List Int))×Unit
abbrev U0:Type:=Unit
abbrev V0:Type:=Unit
def g0 {Z:Type} (rq:Bool→Z→Z) (kn:X0→Y0→Z) (ke:Nat→X0→Y0→Z) (kr:U0→V0→Z) (x:X0) (y:Y0):Z:=
lt (ilt x.2.2.2.2.2.1 x.2.2.2.2.1) fun v1512=>
bif v1512 then
lt (iX.r x.2.2.2.2.2.1 y.2.1 y.2.2.1 y.2.2.2.1) fun w1513=>
rq w1513.1<|
lt (y.1.1&&false) fun (v1514:Bool)=>
lt (y.1.2++ [w1513.2.1]) fun (v1515:(List (List Int)))=>
rq (nle ((2*(y.1.2.length+1)+512)*32) 70368744177664)<|
lt (IntKind.i64.wrap (x.2.2.2.2.2.1+1)) fun v1516=>
kn (x.1,(),(),(),x.2.2.2.2.1,v1516,()) ((v1514,v1515),w1513.2.2.1,w1513.2.2.2.1,w1513.2.2.2.2,())
else
ke 0 (x.1,(),(),(),x.2.2.2.2.1,x.2.2.2.2.2.1,()) (y.1,y.2.1,y.2.2.1,y.2.2.2.1,())
def fu0 (x:X0) (y:Y0):Nat:=(x.2.2.2.2.1 - x.2.2.2.2.2.1).toNat+1
def l0 (x:X0) (y:Y0):Bool×Nat×X0×Y0×U0×V0:=rounds (fun rq kn ke kr x y=>g0 rq kn ke kr x y) () () (fu0 x y) x y
def g {Z:Type} (rq:Bool→Z→Z) (rt:X→Z) (gx:(Option aj)) (n:Int) (b:(List (List Int))) (bx:(Option aj)) (bx1:(List (List Int))):Z:=
lt (gY.l0 (gx,(),(),(),n,0,()) ((true,[]),b,bx,bx1,())) fun w1517=>
rq w1517.1<|
lt (fA.r w1517.2.2.1.1 w1517.2.2.2.1.1.2) fun w1518=>
bif Nat.beq w1518.2.1 0 then
rq w1518.1<|
rt (0,(w1517.2.2.2.1.2.1,w1517.2.2.2.1.2.2.1,w1517.2.2.2.1.2.2.2.1),(0,0,[],none,[],(true,[])))
else
rq w1518.1<|
rt (1,([],none,[]),(w1518.2.2.2.1,w1518.2.2.2.2.1,w1517.2.2.2.1.2.1,w1517.2.2.2.1.2.2.1,w1517.2.2.2.1.2.2.2.1,w1518.2.2.2.2.2))
def r (gx:(Option aj)) (n:Int) (b:(List (List Int))) (bx:(Option aj)) (bx1:(List (List Int))):Bool×X:=g chk (fun x=>(true,x)) gx n b bx bx1
def D:aI:=Dof (P:=Tryz.prog) [iX.ent,fA.ent]
abbrev lf0:=bY (R:=Res) [1] (rounds (fun rq kn ke kr x y=>g0 rq kn ke kr x y) () ()) fu0
def tab:List (Nat×LE Res):= [(4,.typed (eB 23 sh0 bx0 aZ aY bf (lf0)))]
theorem run (gx:(Option aj)) (n:Int) (b:(List (List Int))) (bx:(Option aj)) (bx1:(List (List Int))):iD E0 [false] D (iR E0 D tab 9) Tryz.f88 (codeOf Tryz.f88) [.val ⟨.ref au,gx⟩,.val ⟨.int .i64,n⟩,.clo 93 [.pb 1000000 (.sl (.arr 4 (.int .u64))) [],.pb 1000001 (.ref au) [],.pb 1000002 (.sl (.arr 4 (.int .u64))) []]] [⟨.sl (.arr 4 (.int .u64)),b⟩,⟨.ref au,bx⟩,⟨.sl (.arr 4 (.int .u64)),bx1⟩]=g (fun c z=>req c z) (fun x=>some (res x)) gx n b bx bx1:=by kernel_rfl
theorem rel (gx:(Option aj)) (n:Int) (b:(List (List Int))) (bx:(Option aj)) (bx1:(List (List Int))):J (fun w z=>z=some (res w)) (g chk (fun x=>(true,x)) gx n b bx bx1) (g (fun c z=>req c z) (fun x=>some (res x)) gx n b bx bx1):=by
 unfold g
 with_reducible repeat (first|(apply J.lt; intro _)|apply J.rq|apply J.bif|exact J.rt rfl)
theorem bR:Nonempty (Told E0 D tab Tryz.f88.ntmps (aF (codeOf Tryz.f88) 0) 23 sh0 bx0 aZ aY bf lf0):=eX (sh:=sh0) (bx:=bx0) (ord:=aZ) (shR:=aY) (bxR:=bf) bU (by kernel_rfl) (by kernel_rfl) (by kernel_rfl) [1] _ _ _ @g0 (fun _ _ _ _ _=>by kernel_rfl) (by
  intro _ _ _ _ _ _ _ h i k x y
  simp only [g0]
  with_reducible repeat (first|(apply J.lt; intro _)|apply J.rq|apply J.bif|exact h _ _|exact i _ (by decide) _ _|exact k (by decide) _ _))
theorem bT:fF E0 D tab Tryz.f88.ntmps (codeOf Tryz.f88):=bN (bs:= [aF (codeOf Tryz.f88) 0]) (by kernel_rfl) (aD (bI (by kernel_rfl) (bR)) aL)
theorem ok:oq Tryz.f88=true:=by kernel_rfl
abbrev aS:List AS:= [.one (.val (.ref au)),.one (.val (.int .i64)),.clo 93 [.pb 1000000 (.sl (.arr 4 (.int .u64))) [],.pb 1000001 (.ref au) [],.pb 1000002 (.sl (.arr 4 (.int .u64))) []]]
abbrev bS:List Ty:= [.sl (.arr 4 (.int .u64)),.ref au,.sl (.arr 4 (.int .u64))]
def F (x:ASs aS) (y:Bs bS):Brn Res:=brn (r x.1 x.2.1 y.1 y.2.1 y.2.2.1)
theorem good (x:ASs aS) (y:Bs bS) (h:(F x y).res.1=true):Good Tryz.prog 88 (ASs.mk aS x) (Bs.mk bS y) (F x y).res.2:=
 fZ hE0 (ay _) Tryz.func88 ok bT dA (run x.1 x.2.1 y.1 y.2.1 y.2.2.1) (rel x.1 x.2.1 y.1 y.2.1 y.2.2.1) h
def ent:Ent Tryz.prog:=⟨88,shF aS bS F,bX good⟩
end gY
namespace qA
abbrev X:Type:=(List (List Int))
def res (x:(List (List Int))):Res:=⟨[.val ⟨.sl (.arr 4 (.int .u64)),x⟩],[],[]⟩
def g {Z:Type} (rq:Bool→Z→Z) (rt:X→Z) (gx:(Option aj)) (a:(List (List Int))) (b:(List (List Int))):Z:=
lt (a.length:Int) fun (v1495:Int)=>
lt (b.length:Int) fun (v1496:Int)=>
lt (IntKind.i64.wrap (v1495+v1496)) fun v1497=>
lt (gY.r gx v1497 a gx b) fun w1519=>
bif Nat.beq w1519.2.1 0 then
rq w1519.1<|
rt []
else
rq w1519.1<|
rt ((w1519.2.2.2.2.2.2.2.2.2.drop w1519.2.2.2.1).take w1519.2.2.2.2.1)
def r (gx:(Option aj)) (a:(List (List Int))) (b:(List (List Int))):Bool×X:=g chk (fun x=>(true,x)) gx a b
def D:aI:=Dof (P:=Tryz.prog) [gY.ent]
def tab:List (Nat×LE Res):= []
abbrev aS:List AS:= [.one (.val (.ref au)),.one (.val (.sl (.arr 4 (.int .u64)))),.one (.val (.sl (.arr 4 (.int .u64))))]
abbrev bS:List Ty:= []
def ent:Ent Tryz.prog:=bO (D:=D) (tab:=tab) hE0 (ay _) [true] Tryz.func63 (by kernel_rfl) aG aS bS res (fun x y=>r x.1 x.2.1 x.2.2.1) (fun x y=>g (fun c z=>req c z) (fun x=>some (res x)) x.1 x.2.1 x.2.2.1) (fun _ _=>by kernel_rfl) (by
 intro x y
 show J _ (g chk (fun x=>(true,x)) x.1 x.2.1 x.2.2.1) (g (fun c z=>req c z) (fun x=>some (res x)) x.1 x.2.1 x.2.2.1)
 unfold g
 with_reducible repeat (first|(apply J.lt; intro _)|apply J.rq|apply J.bif|exact J.rt rfl))
end qA
namespace fU
abbrev X:Type:=Nat×(Int)×(Nat×Nat×Int×(Bool×List (List Int)))
def pR (x:Int):Res:=⟨[.nil,.val ⟨.int .i64,x⟩],[],[]⟩
def pQ (x:Nat×Nat×Int×(Bool×List (List Int))):Res:=⟨[.vs 1000000 (.arr 4 (.int .u64)) [] x.1 x.2.1,.val ⟨.int .i64,x.2.2.1⟩],[],[⟨.dyn (.arr 4 (.int .u64)),x.2.2.2⟩]⟩
def res (x:X):Res:=bif Nat.beq x.1 0 then pR x.2.1 else (pQ x.2.2)
def brn (w:Bool×X):Brn Res:= .ite (Nat.beq w.2.1 0) (.one w.1 (pR w.2.2.1)) (.one w.1 (pQ w.2.2.2))
theorem dA (w:Bool×X):(brn w).res=(w.1,res w.2):=by
 cases h0:Nat.beq w.2.1 0 with
 |true=>simp only [brn,res,Brn.res,h0,cond_true,cond_false]
 |false=>
  simp only [brn,res,Brn.res,h0,cond_true,cond_false]
abbrev sh0:List (Nat×Sh):= [(0,.p (.ref au)),(2,.p (.sl (.arr 4 (.int .u64)))),(6,.nil),(7,.p (.int .i64)),(8,.vs 500001 (.arr 4 (.int .u64)) []),(9,.p (.sl (.arr 4 (.int .u64)))),(31,.p (.sl (.arr 4 (.int .u64)))),(32,.p (.int .i64)),(33,.p (.int .i64))]
abbrev bx0:List (Nat×Ty):= [(500001,.dyn (.arr 4 (.int .u64)))]
abbrev aZ:List (Nat×Ty):= [(500001,.dyn (.arr 4 (.int .u64)))]
abbrev aY:List (Nat×Sh):= [(6,.nil),(7,.p (.int .i64))]
abbrev bf:List (Nat×Ty):= []
abbrev bU:List (Nat×Ty):= []
abbrev X0:Type:=(Option aj)×(List (List Int))×Unit×Int×(Nat×Nat)×(List (List Int))×(List (List Int))×Int×Int×Unit
abbrev Y0:Type:=(Bool×List (List Int))×Unit
abbrev U0:Type:=Unit×Int×Unit
abbrev V0:Type:=Unit
def g0 {Z:Type} (rq:Bool→Z→Z) (kn:X0→Y0→Z) (ke:Nat→X0→Y0→Z) (kr:U0→V0→Z) (x:X0) (y:Y0):Z:=
lt (ilt x.2.2.2.2.2.2.2.2.1 x.2.2.2.2.2.2.2.1) fun v1553=>
bif v1553 then
lt (x.2.2.2.2.2.2.1.getD x.2.2.2.2.2.2.2.2.1.toNat [0,0,0,0]) fun (v1554:(List Int))=>
rq (ile (0:Int) x.2.2.2.2.2.2.2.2.1&&ilt x.2.2.2.2.2.2.2.2.1 (x.2.2.2.2.2.2.1.length:Int))<|
lt (iU.r x.1 x.2.2.2.2.2.1 v1554) fun w1555=>
rq w1555.1<|
lt (mq.r w1555.2) fun w1556=>
rq w1556.1<|
bif w1556.2 then
kr ((),1,()) ()
else
lt (x.2.1.getD x.2.2.2.2.2.2.2.2.1.toNat [0,0,0,0]) fun (v1557:(List Int))=>
rq (ile (0:Int) x.2.2.2.2.2.2.2.2.1&&ilt x.2.2.2.2.2.2.2.2.1 (x.2.1.length:Int))<|
lt (iU.r x.1 ((y.1.2.drop x.2.2.2.2.1.1).take x.2.2.2.2.1.2) v1554) fun w1558=>
rq w1558.1<|
lt (mF.r x.1 v1557 w1558.2) fun w1559=>
rq w1559.1<|
lt (pu.r x.1 w1555.2) fun w1560=>
rq w1560.1<|
lt (iV.r x.1 w1559.2 w1560.2) fun w1561=>
rq w1561.1<|
lt (mr.r x.1 x.2.2.2.2.2.1 w1561.2 0) fun w1562=>
rq w1562.1<|
lt (rV.r x.1 ((y.1.2.drop x.2.2.2.2.1.1).take x.2.2.2.2.1.2) w1562.2) fun w1563=>
bif Nat.beq w1563.2.1 0 then
rq w1563.1<|
lt (mF.r x.1 [0,0,0,0] v1554) fun w1564=>
rq w1564.1<|
lt (qA.r x.1 x.2.2.2.2.2.1 [w1564.2,[1,0,0,0]]) fun w1565=>
rq w1565.1<|
lt (IntKind.i64.wrap (x.2.2.2.2.2.2.2.2.1+1)) fun v1566=>
kn (x.1,x.2.1,(),x.2.2.2.1,(0,0),w1565.2,x.2.2.2.2.2.2.1,x.2.2.2.2.2.2.2.1,v1566,()) ((true,[]),())
else
rq w1563.1<|
lt (mF.r x.1 [0,0,0,0] v1554) fun w1567=>
rq w1567.1<|
lt (qA.r x.1 x.2.2.2.2.2.1 [w1567.2,[1,0,0,0]]) fun w1568=>
rq w1568.1<|
lt (IntKind.i64.wrap (x.2.2.2.2.2.2.2.2.1+1)) fun v1569=>
kn (x.1,x.2.1,(),x.2.2.2.1,(w1563.2.2.2.1,w1563.2.2.2.2.1),w1568.2,x.2.2.2.2.2.2.1,x.2.2.2.2.2.2.2.1,v1569,()) (w1563.2.2.2.2.2,())
else
ke 0 (x.1,x.2.1,(),x.2.2.2.1,(x.2.2.2.2.1.1,x.2.2.2.2.1.2),x.2.2.2.2.2.1,x.2.2.2.2.2.2.1,x.2.2.2.2.2.2.2.1,x.2.2.2.2.2.2.2.2.1,()) (y.1,())
def fu0 (x:X0) (y:Y0):Nat:=(x.2.2.2.2.2.2.2.1 - x.2.2.2.2.2.2.2.2.1).toNat+1
def l0 (x:X0) (y:Y0):Bool×Nat×X0×Y0×U0×V0:=rounds (fun rq kn ke kr x y=>g0 rq kn ke kr x y) ((),0,()) () (fu0 x y) x y
def g {Z:Type} (rq:Bool→Z→Z) (rt:X→Z) (gx:(Option aj)) (xs:(List (List Int))) (ys:(List (List Int))):Z:=
lt (bH.r gx) fun w1546=>
rq w1546.1<|
bif w1546.2.isNone then
rt (0,1,(0,0,0,(true,[])))
else
lt (xs.length:Int) fun (v1547:Int)=>
lt (ys.length:Int) fun (v1548:Int)=>
lt (v1547 != v1548) fun (v1549:Bool)=>
bif v1549 then
rt (0,1,(0,0,0,(true,[])))
else
lt (xs.length:Int) fun (v1550:Int)=>
lt (ilt 32 v1550) fun v1551=>
bif v1551 then
rt (0,1,(0,0,0,(true,[])))
else
lt (xs.length:Int) fun (v1552:Int)=>
lt (fU.l0 (gx,ys,(),0,(0,0),[[1,0,0,0]],xs,v1552,0,()) ((true,[]),())) fun w1570=>
rq w1570.1<|
bif Nat.beq w1570.2.1 0 then
rt (0,w1570.2.2.2.2.1.2.1,(0,0,0,(true,[])))
else
rt (1,0,(w1570.2.2.1.2.2.2.2.1.1,w1570.2.2.1.2.2.2.2.1.2,0,w1570.2.2.2.1.1))
def r (gx:(Option aj)) (xs:(List (List Int))) (ys:(List (List Int))):Bool×X:=g chk (fun x=>(true,x)) gx xs ys
def D:aI:=Dof (P:=Tryz.prog) [bH.ent,iU.ent,mq.ent,mF.ent,pu.ent,iV.ent,mr.ent,rV.ent,qA.ent]
abbrev lf0:=bY (R:=Res) [0,1] (rounds (fun rq kn ke kr x y=>g0 rq kn ke kr x y) ((),0,()) ()) fu0
def tab:List (Nat×LE Res):= [(7,.typed (eB 77 sh0 bx0 aZ aY bf (lf0)))]
theorem run (gx:(Option aj)) (xs:(List (List Int))) (ys:(List (List Int))):iD E0 [false,true] D (iR E0 D tab 9) Tryz.f33 (codeOf Tryz.f33) [.val ⟨.ref au,gx⟩,.val ⟨.sl (.arr 4 (.int .u64)),xs⟩,.val ⟨.sl (.arr 4 (.int .u64)),ys⟩] []=g (fun c z=>req c z) (fun x=>some (res x)) gx xs ys:=by kernel_rfl
theorem rel (gx:(Option aj)) (xs:(List (List Int))) (ys:(List (List Int))):J (fun w z=>z=some (res w)) (g chk (fun x=>(true,x)) gx xs ys) (g (fun c z=>req c z) (fun x=>some (res x)) gx xs ys):=by
 unfold g
 with_reducible repeat (first|(apply J.lt; intro _)|apply J.rq|apply J.bif|exact J.rt rfl)
theorem bR:Nonempty (Told E0 D tab Tryz.f33.ntmps (aF (codeOf Tryz.f33) 0) 77 sh0 bx0 aZ aY bf lf0):=eX (sh:=sh0) (bx:=bx0) (ord:=aZ) (shR:=aY) (bxR:=bf) bU (by kernel_rfl) (by kernel_rfl) (by kernel_rfl) [0,1] _ _ _ @g0 (fun _ _ _ _ _=>by kernel_rfl) (by
  intro _ _ _ _ _ _ _ h i k x y
  simp only [g0]
  with_reducible repeat (first|(apply J.lt; intro _)|apply J.rq|apply J.bif|exact h _ _|exact i _ (by decide) _ _|exact k (by decide) _ _))
theorem bT:fF E0 D tab Tryz.f33.ntmps (codeOf Tryz.f33):=bN (bs:= [aF (codeOf Tryz.f33) 0]) (by kernel_rfl) (aD (bI (by kernel_rfl) (bR)) aL)
theorem ok:oq Tryz.f33=true:=by kernel_rfl
abbrev aS:List AS:= [.one (.val (.ref au)),.one (.val (.sl (.arr 4 (.int .u64)))),.one (.val (.sl (.arr 4 (.int .u64))))]
abbrev bS:List Ty:= []
def F (x:ASs aS) (y:Bs bS):Brn Res:=brn (r x.1 x.2.1 x.2.2.1)
theorem good (x:ASs aS) (y:Bs bS) (h:(F x y).res.1=true):Good Tryz.prog 33 (ASs.mk aS x) (Bs.mk bS y) (F x y).res.2:=
 fZ hE0 (ay _) Tryz.func33 ok bT dA (run x.1 x.2.1 x.2.2.1) (rel x.1 x.2.1 x.2.2.1) h
def ent:Ent Tryz.prog:=⟨33,shF aS bS F,bX good⟩
end fU
namespace dO
abbrev X:Type:=Nat×(Int)×(Nat×Nat×Int×(Bool×List (List Int)))
def pR (x:Int):Res:=⟨[.nil,.val ⟨.int .i64,x⟩],[],[]⟩
def pQ (x:Nat×Nat×Int×(Bool×List (List Int))):Res:=⟨[.vs 1000000 (.arr 4 (.int .u64)) [] x.1 x.2.1,.val ⟨.int .i64,x.2.2.1⟩],[],[⟨.dyn (.arr 4 (.int .u64)),x.2.2.2⟩]⟩
def res (x:X):Res:=bif Nat.beq x.1 0 then pR x.2.1 else (pQ x.2.2)
def brn (w:Bool×X):Brn Res:= .ite (Nat.beq w.2.1 0) (.one w.1 (pR w.2.2.1)) (.one w.1 (pQ w.2.2.2))
theorem dA (w:Bool×X):(brn w).res=(w.1,res w.2):=by
 cases h0:Nat.beq w.2.1 0 with
 |true=>simp only [brn,res,Brn.res,h0,cond_true,cond_false]
 |false=>
  simp only [brn,res,Brn.res,h0,cond_true,cond_false]
abbrev sh0:List (Nat×Sh):= [(0,.p (.ref au)),(1,.p (.int .i64)),(2,.p (.sl fJ)),(6,.nil),(7,.p (.int .i64)),(8,.va 500000 (.int .i64)),(9,.va 500001 (.arr 4 (.int .u64))),(10,.va 500002 (.arr 4 (.int .u64))),(15,.p (.sl fJ)),(16,.p (.int .i64)),(17,.p (.int .i64))]
abbrev bx0:List (Nat×Ty):= [(500000,.dyn (.int .i64)),(500001,.dyn (.arr 4 (.int .u64))),(500002,.dyn (.arr 4 (.int .u64)))]
abbrev aZ:List (Nat×Ty):= [(500000,.dyn (.int .i64)),(500001,.dyn (.arr 4 (.int .u64))),(500002,.dyn (.arr 4 (.int .u64)))]
abbrev aY:List (Nat×Sh):= []
abbrev bf:List (Nat×Ty):= []
abbrev bU:List (Nat×Ty):= []
abbrev X0:Type:=(Option aj)×Int×(List bQ)×Unit×Int×Unit×Unit×Unit×(List bQ)×Int×Int×Unit
abbrev Y0:Type:=(Bool×List Int)×(Bool×List (List Int))×(Bool×List (List Int))×Unit
abbrev U0:Type:=Unit
abbrev V0:Type:=Unit
def g0 {Z:Type} (rq:Bool→Z→Z) (kn:X0→Y0→Z) (ke:Nat→X0→Y0→Z) (kr:U0→V0→Z) (x:X0) (y:Y0):Z:=
lt (ilt x.2.2.2.2.2.2.2.2.2.2.1 x.2.2.2.2.2.2.2.2.2.1) fun v1270=>
bif v1270 then
lt (x.2.2.2.2.2.2.2.2.1.getD x.2.2.2.2.2.2.2.2.2.2.1.toNat (0,([0,0,0,0],()))) fun (v1271:bQ)=>
rq (ile (0:Int) x.2.2.2.2.2.2.2.2.2.2.1&&ilt x.2.2.2.2.2.2.2.2.2.2.1 (x.2.2.2.2.2.2.2.2.1.length:Int))<|
lt (y.1.1&&false) fun (v1272:Bool)=>
lt (y.1.2++ [v1271.1]) fun (v1273:(List Int))=>
rq (nle ((2*(y.1.2.length+1)+512)*8) 70368744177664)<|
lt (dY.r v1271.1) fun w1274=>
rq w1274.1<|
lt (y.2.1.1&&false) fun (v1275:Bool)=>
lt (y.2.1.2++ [w1274.2]) fun (v1276:(List (List Int)))=>
rq (nle ((2*(y.2.1.2.length+1)+512)*32) 70368744177664)<|
lt (y.2.2.1.1&&false) fun (v1277:Bool)=>
lt (y.2.2.1.2++ [v1271.2.1]) fun (v1278:(List (List Int)))=>
rq (nle ((2*(y.2.2.1.2.length+1)+512)*32) 70368744177664)<|
lt (IntKind.i64.wrap (x.2.2.2.2.2.2.2.2.2.2.1+1)) fun v1279=>
kn (x.1,x.2.1,x.2.2.1,(),x.2.2.2.2.1,(),(),(),x.2.2.2.2.2.2.2.2.1,x.2.2.2.2.2.2.2.2.2.1,v1279,()) ((v1272,v1273),(v1275,v1276),(v1277,v1278),())
else
ke 0 (x.1,x.2.1,x.2.2.1,(),x.2.2.2.2.1,(),(),(),x.2.2.2.2.2.2.2.2.1,x.2.2.2.2.2.2.2.2.2.1,x.2.2.2.2.2.2.2.2.2.2.1,()) (y.1,y.2.1,y.2.2.1,())
def fu0 (x:X0) (y:Y0):Nat:=(x.2.2.2.2.2.2.2.2.2.1 - x.2.2.2.2.2.2.2.2.2.2.1).toNat+1
def l0 (x:X0) (y:Y0):Bool×Nat×X0×Y0×U0×V0:=rounds (fun rq kn ke kr x y=>g0 rq kn ke kr x y) () () (fu0 x y) x y
def g {Z:Type} (rq:Bool→Z→Z) (rt:X→Z) (gx:(Option aj)) (degree:Int) (l:(List bQ)):Z:=
lt (l.length:Int) fun (v1269:Int)=>
lt (dO.l0 (gx,degree,l,(),0,(),(),(),l,v1269,0,()) ((true,[]),(true,[]),(true,[]),())) fun w1280=>
rq w1280.1<|
lt (bH.r w1280.2.2.1.1) fun w1281=>
rq w1281.1<|
bif w1281.2.isNone then
rt (0,1,(0,0,0,(true,[])))
else
lt (ilt w1280.2.2.1.2.1 0) fun v1282=>
bif v1282 then
rt (0,1,(0,0,0,(true,[])))
else
lt (ile 7 w1280.2.2.1.2.1) fun v1283=>
bif v1283 then
rt (0,1,(0,0,0,(true,[])))
else
lt (gB.r w1280.2.2.2.1.1.2 1) fun w1296=>
rq w1296.1<|
bif w1296.2 then
rt (0,1,(0,0,0,(true,[])))
else
lt (iO.r w1280.2.2.2.1.1.2) fun w1365=>
rq w1365.1<|
bif w1365.2 then
rt (0,1,(0,0,0,(true,[])))
else
lt (w1280.2.2.1.2.2.1.length:Int) fun (v1366:Int)=>
lt (ile v1366 w1280.2.2.1.2.1) fun v1367=>
bif v1367 then
rt (0,3,(0,0,0,(true,[])))
else
lt (fU.r w1280.2.2.1.1 w1280.2.2.2.1.2.1.2 w1280.2.2.2.1.2.2.1.2) fun w1571=>
bif Nat.beq w1571.2.1 0 then
rq w1571.1<|
lt (w1571.2.2.1 != 0) fun (v1572:Bool)=>
bif v1572 then
rt (0,w1571.2.2.1,(0,0,0,(true,[])))
else
lt (IntKind.i64.wrap (w1280.2.2.1.2.1+1)) fun v1573=>
lt (ilt v1573 (0:Int)) fun v1574=>
bif v1574 then
rt (0,4,(0,0,0,(true,[])))
else
rt (0,0,(0,0,0,(true,[])))
else
rq w1571.1<|
lt (w1571.2.2.2.2.2.1 != 0) fun (v1575:Bool)=>
bif v1575 then
rt (0,w1571.2.2.2.2.2.1,(0,0,0,(true,[])))
else
lt ((w1571.2.2.2.2.1:Nat):Int) fun (v1576:Int)=>
lt (IntKind.i64.wrap (w1280.2.2.1.2.1+1)) fun v1577=>
lt (ilt v1577 v1576) fun v1578=>
bif v1578 then
rt (0,4,(0,0,0,(true,[])))
else
rt (1,0,(w1571.2.2.2.1,w1571.2.2.2.2.1,0,w1571.2.2.2.2.2.2))
def r (gx:(Option aj)) (degree:Int) (l:(List bQ)):Bool×X:=g chk (fun x=>(true,x)) gx degree l
def D:aI:=Dof (P:=Tryz.prog) [dY.ent,bH.ent,gB.ent,iO.ent,fU.ent]
abbrev lf0:=bY (R:=Res) [1] (rounds (fun rq kn ke kr x y=>g0 rq kn ke kr x y) () ()) fu0
def tab:List (Nat×LE Res):= [(5,.typed (eB 79 sh0 bx0 aZ aY bf (lf0)))]
theorem run (gx:(Option aj)) (degree:Int) (l:(List bQ)):iD E0 [false,true] D (iR E0 D tab 9) Tryz.f17 (codeOf Tryz.f17) [.val ⟨.ref au,gx⟩,.val ⟨.int .i64,degree⟩,.val ⟨.sl fJ,l⟩] []=g (fun c z=>req c z) (fun x=>some (res x)) gx degree l:=by kernel_rfl
theorem rel (gx:(Option aj)) (degree:Int) (l:(List bQ)):J (fun w z=>z=some (res w)) (g chk (fun x=>(true,x)) gx degree l) (g (fun c z=>req c z) (fun x=>some (res x)) gx degree l):=by
 unfold g
 with_reducible repeat (first|(apply J.lt; intro _)|apply J.rq|apply J.bif|exact J.rt rfl)
theorem bR:Nonempty (Told E0 D tab Tryz.f17.ntmps (aF (codeOf Tryz.f17) 0) 79 sh0 bx0 aZ aY bf lf0):=eX (sh:=sh0) (bx:=bx0) (ord:=aZ) (shR:=aY) (bxR:=bf) bU (by kernel_rfl) (by kernel_rfl) (by kernel_rfl) [1] _ _ _ @g0 (fun _ _ _ _ _=>by kernel_rfl) (by
  intro _ _ _ _ _ _ _ h i k x y
  simp only [g0]
  with_reducible repeat (first|(apply J.lt; intro _)|apply J.rq|apply J.bif|exact h _ _|exact i _ (by decide) _ _|exact k (by decide) _ _))
theorem bT:fF E0 D tab Tryz.f17.ntmps (codeOf Tryz.f17):=bN (bs:= [aF (codeOf Tryz.f17) 0]) (by kernel_rfl) (aD (bI (by kernel_rfl) (bR)) aL)
theorem ok:oq Tryz.f17=true:=by kernel_rfl
abbrev aS:List AS:= [.one (.val (.ref au)),.one (.val (.int .i64)),.one (.val (.sl fJ))]
abbrev bS:List Ty:= []
def F (x:ASs aS) (y:Bs bS):Brn Res:=brn (r x.1 x.2.1 x.2.2.1)
theorem good (x:ASs aS) (y:Bs bS) (h:(F x y).res.1=true):Good Tryz.prog 17 (ASs.mk aS x) (Bs.mk bS y) (F x y).res.2:=
 fZ hE0 (ay _) Tryz.func17 ok bT dA (run x.1 x.2.1 x.2.2.1) (rel x.1 x.2.1 x.2.2.1) h
def ent:Ent Tryz.prog:=⟨17,shF aS bS F,bX good⟩
def ro:(Option aj)→Int→(List bQ)→Bool×X:=Classical.choose (⟨r,rfl⟩:∃ q:(Option aj)→Int→(List bQ)→Bool×X,q=r)
theorem gI:ro=r:=Classical.choose_spec (⟨r,rfl⟩:∃ q:(Option aj)→Int→(List bQ)→Bool×X,q=r)
def FO (x:ASs aS) (y:Bs bS):Brn Res:=brn (ro x.1 x.2.1 x.2.2.1)
theorem kR:FO=F:=by unfold FO F; rw [gI]
def oC:Ent Tryz.prog:=⟨17,shF aS bS FO,bX (by rw [kR]; exact good)⟩
end dO
namespace bL
abbrev X:Type:=Bool
def res (x:Bool):Res:=⟨[.val ⟨.bool,x⟩],[],[]⟩
def brn (w:Bool×X):Brn Res:= .one w.1 (res w.2)
theorem dA (w:Bool×X):(brn w).res=(w.1,res w.2):=rfl
abbrev sh0:List (Nat×Sh):= [(0,.p (.sl (.arr 4 (.int .u64)))),(1,.p (.sl (.arr 4 (.int .u64)))),(4,.p .bool),(5,.p (.int .i64))]
abbrev bx0:List (Nat×Ty):= []
abbrev aZ:List (Nat×Ty):= []
abbrev aY:List (Nat×Sh):= [(4,.p .bool)]
abbrev bf:List (Nat×Ty):= []
abbrev bU:List (Nat×Ty):= []
abbrev X0:Type:=(List (List Int))×(List (List Int))×Bool×Int×Unit
abbrev Y0:Type:=Unit
abbrev U0:Type:=Bool×Unit
abbrev V0:Type:=Unit
def g0 {Z:Type} (rq:Bool→Z→Z) (kn:X0→Y0→Z) (ke:Nat→X0→Y0→Z) (kr:U0→V0→Z) (x:X0) (y:Y0):Z:=
lt (x.1.length:Int) fun (v1588:Int)=>
lt (ilt x.2.2.2.1 v1588) fun v1589=>
bif v1589 then
lt (x.1.getD x.2.2.2.1.toNat [0,0,0,0]) fun (v1590:(List Int))=>
rq (ile (0:Int) x.2.2.2.1&&ilt x.2.2.2.1 (x.1.length:Int))<|
lt (x.2.1.getD x.2.2.2.1.toNat [0,0,0,0]) fun (v1591:(List Int))=>
rq (ile (0:Int) x.2.2.2.1&&ilt x.2.2.2.1 (x.2.1.length:Int))<|
lt (!(ieq (v1590.getD 0 0) (v1591.getD 0 0)&&(ieq (v1590.getD 1 0) (v1591.getD 1 0)&&(ieq (v1590.getD 2 0) (v1591.getD 2 0)&&(ieq (v1590.getD 3 0) (v1591.getD 3 0)&&true))))) fun (v1592:Bool)=>
bif v1592 then
kr (false,()) ()
else
lt (IntKind.i64.wrap (x.2.2.2.1+1)) fun v1593=>
kn (x.1,x.2.1,x.2.2.1,v1593,()) ()
else
ke 0 (x.1,x.2.1,x.2.2.1,x.2.2.2.1,()) ()
def fu0 (x:X0) (y:Y0):Nat:=((x.1.length:Int) - x.2.2.2.1).toNat+1
def l0 (x:X0) (y:Y0):Bool×Nat×X0×Y0×U0×V0:=rounds (fun rq kn ke kr x y=>g0 rq kn ke kr x y) (false,()) () (fu0 x y) x y
def g {Z:Type} (rq:Bool→Z→Z) (rt:X→Z) (a:(List (List Int))) (b:(List (List Int))):Z:=
lt (a.length:Int) fun (v1583:Int)=>
lt (b.length:Int) fun (v1584:Int)=>
lt (v1583 != v1584) fun (v1585:Bool)=>
bif v1585 then
rt false
else
lt (bL.l0 (a,b,false,0,()) ()) fun w1594=>
rq w1594.1<|
bif Nat.beq w1594.2.1 0 then
rt w1594.2.2.2.2.1.1
else
rt true
def r (a:(List (List Int))) (b:(List (List Int))):Bool×X:=g chk (fun x=>(true,x)) a b
def D:aI:=Dof (P:=Tryz.prog) []
abbrev lf0:=bY (R:=Res) [0,1] (rounds (fun rq kn ke kr x y=>g0 rq kn ke kr x y) (false,()) ()) fu0
def tab:List (Nat×LE Res):= [(5,.typed (eB 26 sh0 bx0 aZ aY bf (lf0)))]
theorem run (a:(List (List Int))) (b:(List (List Int))):iD E0 [true] D (iR E0 D tab 9) Tryz.f20 (codeOf Tryz.f20) [.val ⟨.sl (.arr 4 (.int .u64)),a⟩,.val ⟨.sl (.arr 4 (.int .u64)),b⟩] []=g (fun c z=>req c z) (fun x=>some (res x)) a b:=by kernel_rfl
theorem rel (a:(List (List Int))) (b:(List (List Int))):J (fun w z=>z=some (res w)) (g chk (fun x=>(true,x)) a b) (g (fun c z=>req c z) (fun x=>some (res x)) a b):=by
 unfold g
 with_reducible repeat (first|(apply J.lt; intro _)|apply J.rq|apply J.bif|exact J.rt rfl)
theorem bR:Nonempty (Told E0 D tab Tryz.f20.ntmps (aF (codeOf Tryz.f20) 0) 26 sh0 bx0 aZ aY bf lf0):=eX (sh:=sh0) (bx:=bx0) (ord:=aZ) (shR:=aY) (bxR:=bf) bU (by kernel_rfl) (by kernel_rfl) (by kernel_rfl) [0,1] _ _ _ @g0 (fun _ _ _ _ _=>by kernel_rfl) (by
  intro _ _ _ _ _ _ _ h i k x y
  simp only [g0]
  with_reducible repeat (first|(apply J.lt; intro _)|apply J.rq|apply J.bif|exact h _ _|exact i _ (by decide) _ _|exact k (by decide) _ _))
theorem bT:fF E0 D tab Tryz.f20.ntmps (codeOf Tryz.f20):=bN (bs:= [aF (codeOf Tryz.f20) 0]) (by kernel_rfl) (aD (bI (by kernel_rfl) (bR)) aL)
theorem ok:oq Tryz.f20=true:=by kernel_rfl
abbrev aS:List AS:= [.one (.val (.sl (.arr 4 (.int .u64)))),.one (.val (.sl (.arr 4 (.int .u64))))]
abbrev bS:List Ty:= []
def F (x:ASs aS) (y:Bs bS):Brn Res:=brn (r x.1 x.2.1)
theorem good (x:ASs aS) (y:Bs bS) (h:(F x y).res.1=true):Good Tryz.prog 20 (ASs.mk aS x) (Bs.mk bS y) (F x y).res.2:=
 fZ hE0 (ay _) Tryz.func20 ok bT dA (run x.1 x.2.1) (rel x.1 x.2.1) h
def ent:Ent Tryz.prog:=⟨20,shF aS bS F,bX good⟩
def ro:(List (List Int))→(List (List Int))→Bool×X:=Classical.choose (⟨r,rfl⟩:∃ q:(List (List Int))→(List (List Int))→Bool×X,q=r)
theorem gI:ro=r:=Classical.choose_spec (⟨r,rfl⟩:∃ q:(List (List Int))→(List (List Int))→Bool×X,q=r)
def FO (x:ASs aS) (y:Bs bS):Brn Res:=brn (ro x.1 x.2.1)
theorem kR:FO=F:=by unfold FO F; rw [gI]
def oC:Ent Tryz.prog:=⟨20,shF aS bS FO,bX (by rw [kR]; exact good)⟩
end bL
end Go.Own
