/- What functions compute, printed by wip/gen/gen2.py. -/
import Derived.Test.YtkjppaidcnmjjaaGreatG1
set_option linter.unusedVariables false
set_option linter.unusedSimpArgs false
namespace Go.Own
open Go.Proofs Go.Proofs.YtkjppaidcnmjjaaGreat
namespace ic
abbrev X:Type:=Int×Int
noncomputable def res (x:Int×Int):Res:=⟨[.val ⟨.int .u64,x.1⟩,.val ⟨.int .u64,x.2⟩],[],[]⟩
noncomputable def brn (w:Bool×X):Brn Res:= .one w.1 (res w.2)
theorem aj (w:Bool×X):(brn w).res=(w.1,res w.2):=rfl
noncomputable def g {Z:Type} (rq:Bool→Z→Z) (rt:X→Z) (xx:Int) (yx:Int):Z:=
lt (eB .u64 (· &&& ·) xx (4294967295:Int)) fun v524=>
lt (xx.fdiv (2^32)) fun (v525:Int)=>
lt (eB .u64 (· &&& ·) yx (4294967295:Int)) fun v526=>
lt (yx.fdiv (2^32)) fun (v527:Int)=>
lt (IntKind.u64.wrap (v524*v526)) fun v528=>
lt (IntKind.u64.wrap (v525*v526)) fun v529=>
lt (v528.fdiv (2^32)) fun (v530:Int)=>
lt (IntKind.u64.wrap (v529+v530)) fun v531=>
lt (eB .u64 (· &&& ·) v531 (4294967295:Int)) fun v532=>
lt (v531.fdiv (2^32)) fun (v533:Int)=>
lt (IntKind.u64.wrap (v524*v527)) fun v534=>
lt (IntKind.u64.wrap (v532+v534)) fun v535=>
lt (IntKind.u64.wrap (v525*v527)) fun v536=>
lt (IntKind.u64.wrap (v536+v533)) fun v537=>
lt (v535.fdiv (2^32)) fun (v538:Int)=>
lt (IntKind.u64.wrap (v537+v538)) fun v539=>
lt (IntKind.u64.wrap (xx*yx)) fun v540=>
rt (v539,v540)
noncomputable def r (xx:Int) (yx:Int):Bool×X:=g chk (fun x=>(true,x)) xx yx
noncomputable def D:aP:=Dof (P:=Tryz.prog) []
noncomputable def tab:List (Nat×LE Res):= []
set_option maxRecDepth 100000 in
theorem run (xx:Int) (yx:Int):aQ E0 [true,true] D (aJ E0 D tab 9) Tryz.f96 (codeOf Tryz.f96) [.val ⟨.int .u64,xx⟩,.val ⟨.int .u64,yx⟩] []=g (fun c z=>req c z) (fun x=>some (res x)) xx yx:=by kernel_rfl
theorem rel (xx:Int) (yx:Int):J (fun w z=>z=some (res w)) (g chk (fun x=>(true,x)) xx yx) (g (fun c z=>req c z) (fun x=>some (res x)) xx yx):=by
 unfold g
 with_reducible repeat (first|(apply J.lt; intro _)|apply J.rq|apply J.bif|exact J.rt rfl)
theorem ok:dD Tryz.f96=true:=by kernel_rfl
abbrev aS:List AS:= [.one (.val (.int .u64)),.one (.val (.int .u64))]
abbrev bS:List Ty:= []
noncomputable def F (x:ASs aS) (y:Bs bS):Brn Res:=brn (r x.1 x.2.1)
theorem good (x:ASs aS) (y:Bs bS) (h:(F x y).res.1=true):Good Tryz.prog 96 (ASs.mk aS x) (Bs.mk bS y) (F x y).res.2:=
 aF hE0 (aA _) Tryz.func96 ok aO aj (run x.1 x.2.1) (rel x.1 x.2.1) h
noncomputable def ent:Ent Tryz.prog:=⟨96,shF aS bS F,aB good⟩
end ic
namespace bI
abbrev X:Type:=(List Int)×Int×(List Int)×(List Int)×Int
noncomputable def res (x:(List Int)×Int×(List Int)×(List Int)×Int):Res:=⟨[],[some ⟨.arr 4 (.int .u64),x.1⟩,some ⟨.int .i64,x.2.1⟩,some ⟨.arr 4 (.int .u64),x.2.2.1⟩,some ⟨.arr 8 (.int .u64),x.2.2.2.1⟩,some ⟨.int .u64,x.2.2.2.2⟩],[]⟩
noncomputable def brn (w:Bool×X):Brn Res:= .one w.1 (res w.2)
theorem aj (w:Bool×X):(brn w).res=(w.1,res w.2):=rfl
noncomputable def g {Z:Type} (rq:Bool→Z→Z) (rt:X→Z) (kx:Int) (b:(List Int)) (bx:Int) (bx1:(List Int)) (bx11:(List Int)) (bx111:Int):Z:=
rq (ile (0:Int) bx&&ilt bx 4)<|
lt (b.getD bx.toNat 0) fun (v522:Int)=>
rq (ile (0:Int) kx&&ilt kx 4)<|
lt (bx1.getD kx.toNat 0) fun (v523:Int)=>
lt (ic.r v522 v523) fun w541=>
rq w541.1<|
lt (IntKind.i64.wrap (bx+kx)) fun v542=>
rq (ile (0:Int) v542&&ilt v542 8)<|
lt (bx11.getD v542.toNat 0) fun (v543:Int)=>
lt ((w541.2.2+v543+(0:Int))%18446744073709551616) fun (v544:Int)=>
lt ((w541.2.2+v543+(0:Int))/18446744073709551616) fun (v545:Int)=>
rq (((ile 0 w541.2.2&&ile 0 v543)&&ile 0 (0:Int))&&ile (0:Int) 1)<|
lt (IntKind.u64.wrap (w541.2.1+v545)) fun v546=>
lt ((v544+bx111+(0:Int))%18446744073709551616) fun (v547:Int)=>
lt ((v544+bx111+(0:Int))/18446744073709551616) fun (v548:Int)=>
rq (((ile 0 v544&&ile 0 bx111)&&ile 0 (0:Int))&&ile (0:Int) 1)<|
lt (IntKind.i64.wrap (bx+kx)) fun v549=>
lt (IntKind.u64.wrap (v546+v548)) fun v550=>
rq (ile (0:Int) v549&&ilt v549 8)<|
lt (bx11.set v549.toNat v547) fun (v551:(List Int))=>
rt (b,bx,bx1,v551,v550)
noncomputable def r (kx:Int) (b:(List Int)) (bx:Int) (bx1:(List Int)) (bx11:(List Int)) (bx111:Int):Bool×X:=g chk (fun x=>(true,x)) kx b bx bx1 bx11 bx111
noncomputable def D:aP:=Dof (P:=Tryz.prog) [ic.ent,pU]
noncomputable def tab:List (Nat×LE Res):= []
set_option maxRecDepth 100000 in
theorem run (kx:Int) (b:(List Int)) (bx:Int) (bx1:(List Int)) (bx11:(List Int)) (bx111:Int):aQ E0 [] D (aJ E0 D tab 9) Tryz.f102 (codeOf Tryz.f102) [.val ⟨.int .i64,kx⟩,.pb 1000000 (.arr 4 (.int .u64)) [],.pb 1000001 (.int .i64) [],.pb 1000002 (.arr 4 (.int .u64)) [],.pb 1000003 (.arr 8 (.int .u64)) [],.pb 1000004 (.int .u64) []] [⟨.arr 4 (.int .u64),b⟩,⟨.int .i64,bx⟩,⟨.arr 4 (.int .u64),bx1⟩,⟨.arr 8 (.int .u64),bx11⟩,⟨.int .u64,bx111⟩]=g (fun c z=>req c z) (fun x=>some (res x)) kx b bx bx1 bx11 bx111:=by kernel_rfl
theorem rel (kx:Int) (b:(List Int)) (bx:Int) (bx1:(List Int)) (bx11:(List Int)) (bx111:Int):J (fun w z=>z=some (res w)) (g chk (fun x=>(true,x)) kx b bx bx1 bx11 bx111) (g (fun c z=>req c z) (fun x=>some (res x)) kx b bx bx1 bx11 bx111):=by
 unfold g
 with_reducible repeat (first|(apply J.lt; intro _)|apply J.rq|apply J.bif|exact J.rt rfl)
theorem ok:dD Tryz.f102=true:=by kernel_rfl
abbrev aS:List AS:= [.one (.val (.int .i64)),.one (.pb 1000000 (.arr 4 (.int .u64)) []),.one (.pb 1000001 (.int .i64) []),.one (.pb 1000002 (.arr 4 (.int .u64)) []),.one (.pb 1000003 (.arr 8 (.int .u64)) []),.one (.pb 1000004 (.int .u64) [])]
abbrev bS:List Ty:= [.arr 4 (.int .u64),.int .i64,.arr 4 (.int .u64),.arr 8 (.int .u64),.int .u64]
noncomputable def F (x:ASs aS) (y:Bs bS):Brn Res:=brn (r x.1 y.1 y.2.1 y.2.2.1 y.2.2.2.1 y.2.2.2.2.1)
theorem good (x:ASs aS) (y:Bs bS) (h:(F x y).res.1=true):Good Tryz.prog 102 (ASs.mk aS x) (Bs.mk bS y) (F x y).res.2:=
 aF hE0 (aA _) Tryz.func102 ok aO aj (run x.1 y.1 y.2.1 y.2.2.1 y.2.2.2.1 y.2.2.2.2.1) (rel x.1 y.1 y.2.1 y.2.2.1 y.2.2.2.1 y.2.2.2.2.1) h
noncomputable def ent:Ent Tryz.prog:=⟨102,shF aS bS F,aB good⟩
end bI
namespace mK
abbrev X:Type:=(List Int)×(List Int)
noncomputable def res (x:(List Int)×(List Int)):Res:=⟨[.val ⟨.arr 4 (.int .u64),x.1⟩,.val ⟨.arr 4 (.int .u64),x.2⟩],[],[]⟩
noncomputable def brn (w:Bool×X):Brn Res:= .one w.1 (res w.2)
theorem aj (w:Bool×X):(brn w).res=(w.1,res w.2):=rfl
noncomputable def g {Z:Type} (rq:Bool→Z→Z) (rt:X→Z) (a:(List Int)) (b:(List Int)):Z:=
lt (bI.r 0 a 0 b [0,0,0,0,0,0,0,0] 0) fun w584=>
rq w584.1<|
lt (bI.r 1 w584.2.1 w584.2.2.1 w584.2.2.2.1 w584.2.2.2.2.1 w584.2.2.2.2.2) fun w585=>
rq w585.1<|
lt (bI.r 2 w585.2.1 w585.2.2.1 w585.2.2.2.1 w585.2.2.2.2.1 w585.2.2.2.2.2) fun w586=>
rq w586.1<|
lt (bI.r 3 w586.2.1 w586.2.2.1 w586.2.2.2.1 w586.2.2.2.2.1 w586.2.2.2.2.2) fun w587=>
rq w587.1<|
lt (IntKind.i64.wrap (w587.2.2.1+4)) fun v588=>
rq (ile (0:Int) v588&&ilt v588 8)<|
lt (w587.2.2.2.2.1.set v588.toNat w587.2.2.2.2.2) fun (v589:(List Int))=>
lt (bI.r 0 w587.2.1 1 w587.2.2.2.1 v589 0) fun w590=>
rq w590.1<|
lt (bI.r 1 w590.2.1 w590.2.2.1 w590.2.2.2.1 w590.2.2.2.2.1 w590.2.2.2.2.2) fun w591=>
rq w591.1<|
lt (bI.r 2 w591.2.1 w591.2.2.1 w591.2.2.2.1 w591.2.2.2.2.1 w591.2.2.2.2.2) fun w592=>
rq w592.1<|
lt (bI.r 3 w592.2.1 w592.2.2.1 w592.2.2.2.1 w592.2.2.2.2.1 w592.2.2.2.2.2) fun w593=>
rq w593.1<|
lt (IntKind.i64.wrap (w593.2.2.1+4)) fun v594=>
rq (ile (0:Int) v594&&ilt v594 8)<|
lt (w593.2.2.2.2.1.set v594.toNat w593.2.2.2.2.2) fun (v595:(List Int))=>
lt (bI.r 0 w593.2.1 2 w593.2.2.2.1 v595 0) fun w596=>
rq w596.1<|
lt (bI.r 1 w596.2.1 w596.2.2.1 w596.2.2.2.1 w596.2.2.2.2.1 w596.2.2.2.2.2) fun w597=>
rq w597.1<|
lt (bI.r 2 w597.2.1 w597.2.2.1 w597.2.2.2.1 w597.2.2.2.2.1 w597.2.2.2.2.2) fun w598=>
rq w598.1<|
lt (bI.r 3 w598.2.1 w598.2.2.1 w598.2.2.2.1 w598.2.2.2.2.1 w598.2.2.2.2.2) fun w599=>
rq w599.1<|
lt (IntKind.i64.wrap (w599.2.2.1+4)) fun v600=>
rq (ile (0:Int) v600&&ilt v600 8)<|
lt (w599.2.2.2.2.1.set v600.toNat w599.2.2.2.2.2) fun (v601:(List Int))=>
lt (bI.r 0 w599.2.1 3 w599.2.2.2.1 v601 0) fun w602=>
rq w602.1<|
lt (bI.r 1 w602.2.1 w602.2.2.1 w602.2.2.2.1 w602.2.2.2.2.1 w602.2.2.2.2.2) fun w603=>
rq w603.1<|
lt (bI.r 2 w603.2.1 w603.2.2.1 w603.2.2.2.1 w603.2.2.2.2.1 w603.2.2.2.2.2) fun w604=>
rq w604.1<|
lt (bI.r 3 w604.2.1 w604.2.2.1 w604.2.2.2.1 w604.2.2.2.2.1 w604.2.2.2.2.2) fun w605=>
rq w605.1<|
lt (IntKind.i64.wrap (w605.2.2.1+4)) fun v606=>
rq (ile (0:Int) v606&&ilt v606 8)<|
lt (w605.2.2.2.2.1.set v606.toNat w605.2.2.2.2.2) fun (v607:(List Int))=>
lt (v607.take 4) fun (v608:(List Int))=>
lt ((v607.drop 4).take 4) fun (v609:(List Int))=>
rt (v608,v609)
noncomputable def r (a:(List Int)) (b:(List Int)):Bool×X:=g chk (fun x=>(true,x)) a b
noncomputable def D:aP:=Dof (P:=Tryz.prog) [bI.ent]
noncomputable def tab:List (Nat×LE Res):= []
set_option maxRecDepth 100000 in
theorem run (a:(List Int)) (b:(List Int)):aQ E0 [true,true] D (aJ E0 D tab 9) Tryz.f74 (codeOf Tryz.f74) [.val ⟨.arr 4 (.int .u64),a⟩,.val ⟨.arr 4 (.int .u64),b⟩] []=g (fun c z=>req c z) (fun x=>some (res x)) a b:=by kernel_rfl
theorem rel (a:(List Int)) (b:(List Int)):J (fun w z=>z=some (res w)) (g chk (fun x=>(true,x)) a b) (g (fun c z=>req c z) (fun x=>some (res x)) a b):=by
 unfold g
 with_reducible repeat (first|(apply J.lt; intro _)|apply J.rq|apply J.bif|exact J.rt rfl)
theorem ok:dD Tryz.f74=true:=by kernel_rfl
abbrev aS:List AS:= [.one (.val (.arr 4 (.int .u64))),.one (.val (.arr 4 (.int .u64)))]
abbrev bS:List Ty:= []
noncomputable def F (x:ASs aS) (y:Bs bS):Brn Res:=brn (r x.1 x.2.1)
theorem good (x:ASs aS) (y:Bs bS) (h:(F x y).res.1=true):Good Tryz.prog 74 (ASs.mk aS x) (Bs.mk bS y) (F x y).res.2:=
 aF hE0 (aA _) Tryz.func74 ok aO aj (run x.1 x.2.1) (rel x.1 x.2.1) h
noncomputable def ent:Ent Tryz.prog:=⟨74,shF aS bS F,aB good⟩
end mK
namespace jB
abbrev X:Type:=(List Int)×Int
noncomputable def res (x:(List Int)×Int):Res:=⟨[.val ⟨.arr 4 (.int .u64),x.1⟩,.val ⟨.int .i64,x.2⟩],[],[]⟩
noncomputable def brn (w:Bool×X):Brn Res:= .one w.1 (res w.2)
theorem aj (w:Bool×X):(brn w).res=(w.1,res w.2):=rfl
noncomputable def g {Z:Type} (rq:Bool→Z→Z) (rt:X→Z) (a:(List Int)) (b:(List Int)) (m:(List Int)):Z:=
lt (mK.r a b) fun w610=>
rq w610.1<|
lt (gK.r w610.2.1 w610.2.2 m) fun w611=>
rq w611.1<|
rt (w611.2.1,w611.2.2)
noncomputable def r (a:(List Int)) (b:(List Int)) (m:(List Int)):Bool×X:=g chk (fun x=>(true,x)) a b m
noncomputable def D:aP:=Dof (P:=Tryz.prog) [mK.ent,gK.ent]
noncomputable def tab:List (Nat×LE Res):= []
set_option maxRecDepth 100000 in
theorem run (a:(List Int)) (b:(List Int)) (m:(List Int)):aQ E0 [true,true] D (aJ E0 D tab 9) Tryz.f48 (codeOf Tryz.f48) [.val ⟨.arr 4 (.int .u64),a⟩,.val ⟨.arr 4 (.int .u64),b⟩,.val ⟨.arr 4 (.int .u64),m⟩] []=g (fun c z=>req c z) (fun x=>some (res x)) a b m:=by kernel_rfl
theorem rel (a:(List Int)) (b:(List Int)) (m:(List Int)):J (fun w z=>z=some (res w)) (g chk (fun x=>(true,x)) a b m) (g (fun c z=>req c z) (fun x=>some (res x)) a b m):=by
 unfold g
 with_reducible repeat (first|(apply J.lt; intro _)|apply J.rq|apply J.bif|exact J.rt rfl)
theorem ok:dD Tryz.f48=true:=by kernel_rfl
abbrev aS:List AS:= [.one (.val (.arr 4 (.int .u64))),.one (.val (.arr 4 (.int .u64))),.one (.val (.arr 4 (.int .u64)))]
abbrev bS:List Ty:= []
noncomputable def F (x:ASs aS) (y:Bs bS):Brn Res:=brn (r x.1 x.2.1 x.2.2.1)
theorem good (x:ASs aS) (y:Bs bS) (h:(F x y).res.1=true):Good Tryz.prog 48 (ASs.mk aS x) (Bs.mk bS y) (F x y).res.2:=
 aF hE0 (aA _) Tryz.func48 ok aO aj (run x.1 x.2.1 x.2.2.1) (rel x.1 x.2.1 x.2.2.1) h
noncomputable def ent:Ent Tryz.prog:=⟨48,shF aS bS F,aB good⟩
end jB
namespace jR
abbrev X:Type:=(Option aG)×Int
noncomputable def res (x:(Option aG)×Int):Res:=⟨[.val ⟨.ref bW,x.1⟩,.val ⟨.int .i64,x.2⟩],[],[]⟩
noncomputable def brn (w:Bool×X):Brn Res:= .one w.1 (res w.2)
theorem aj (w:Bool×X):(brn w).res=(w.1,res w.2):=rfl
noncomputable def g {Z:Type} (rq:Bool→Z→Z) (rt:X→Z) (m:(List Int)):Z:=
lt (m.getD 0 0) fun (v47:Int)=>
lt (eB .u64 (· &&& ·) v47 (1:Int)) fun v48=>
lt (v48== 0) fun (v49:Bool)=>
bif v49 then
rt (none,1)
else
lt (eO.r 1) fun w52=>
rq w52.1<|
lt (ieq (m.getD 0 0) (w52.2.getD 0 0)&&(ieq (m.getD 1 0) (w52.2.getD 1 0)&&(ieq (m.getD 2 0) (w52.2.getD 2 0)&&(ieq (m.getD 3 0) (w52.2.getD 3 0)&&true)))) fun v53=>
bif v53 then
rt (none,1)
else
lt (m.getD 0 0) fun (v54:Int)=>
lt (m.getD 0 0) fun (v75:Int)=>
lt (IntKind.u64.wrap (v75*v54)) fun v76=>
lt (IntKind.u64.wrap ((2:Int) - v76)) fun v77=>
lt (IntKind.u64.wrap (v54*v77)) fun v78=>
lt (m.getD 0 0) fun (v79:Int)=>
lt (IntKind.u64.wrap (v79*v78)) fun v80=>
lt (IntKind.u64.wrap ((2:Int) - v80)) fun v81=>
lt (IntKind.u64.wrap (v78*v81)) fun v82=>
lt (m.getD 0 0) fun (v83:Int)=>
lt (IntKind.u64.wrap (v83*v82)) fun v84=>
lt (IntKind.u64.wrap ((2:Int) - v84)) fun v85=>
lt (IntKind.u64.wrap (v82*v85)) fun v86=>
lt (m.getD 0 0) fun (v87:Int)=>
lt (IntKind.u64.wrap (v87*v86)) fun v88=>
lt (IntKind.u64.wrap ((2:Int) - v88)) fun v89=>
lt (IntKind.u64.wrap (v86*v89)) fun v90=>
lt (m.getD 0 0) fun (v91:Int)=>
lt (IntKind.u64.wrap (v91*v90)) fun v92=>
lt (IntKind.u64.wrap ((2:Int) - v92)) fun v93=>
lt (IntKind.u64.wrap (v90*v93)) fun v94=>
lt (IntKind.u64.wrap (0 - v94)) fun v95=>
lt (eO.r 1) fun w96=>
rq w96.1<|
lt (gK.r [0,0,0,0] w96.2 m) fun w521=>
rq w521.1<|
lt (jB.r w521.2.1 w521.2.1 m) fun w612=>
rq w612.1<|
rt ((some (m,(v95,(w521.2.1,(w612.2.1,()))))),0)
noncomputable def r (m:(List Int)):Bool×X:=g chk (fun x=>(true,x)) m
noncomputable def D:aP:=Dof (P:=Tryz.prog) [eO.ent,gK.ent,jB.ent]
noncomputable def tab:List (Nat×LE Res):= []
set_option maxRecDepth 100000 in
theorem run (m:(List Int)):aQ E0 [true,true] D (aJ E0 D tab 9) Tryz.f28 (codeOf Tryz.f28) [.val ⟨.arr 4 (.int .u64),m⟩] []=g (fun c z=>req c z) (fun x=>some (res x)) m:=by kernel_rfl
theorem rel (m:(List Int)):J (fun w z=>z=some (res w)) (g chk (fun x=>(true,x)) m) (g (fun c z=>req c z) (fun x=>some (res x)) m):=by
 unfold g
 with_reducible repeat (first|(apply J.lt; intro _)|apply J.rq|apply J.bif|exact J.rt rfl)
theorem ok:dD Tryz.f28=true:=by kernel_rfl
abbrev aS:List AS:= [.one (.val (.arr 4 (.int .u64)))]
abbrev bS:List Ty:= []
noncomputable def F (x:ASs aS) (y:Bs bS):Brn Res:=brn (r x.1)
theorem good (x:ASs aS) (y:Bs bS) (h:(F x y).res.1=true):Good Tryz.prog 28 (ASs.mk aS x) (Bs.mk bS y) (F x y).res.2:=
 aF hE0 (aA _) Tryz.func28 ok aO aj (run x.1) (rel x.1) h
noncomputable def ent:Ent Tryz.prog:=⟨28,shF aS bS F,aB good⟩
end jR
namespace kX
abbrev X:Type:=(List Int)×(List Int)×Int
noncomputable def res (x:(List Int)×(List Int)×Int):Res:=⟨[.val ⟨.arr 4 (.int .u64),x.1⟩,.val ⟨.arr 4 (.int .u64),x.2.1⟩,.val ⟨.int .i64,x.2.2⟩],[],[]⟩
noncomputable def brn (w:Bool×X):Brn Res:= .one w.1 (res w.2)
theorem aj (w:Bool×X):(brn w).res=(w.1,res w.2):=rfl
noncomputable def g {Z:Type} (rq:Bool→Z→Z) (rt:X→Z) (a:(List Int)) (b:(List Int)):Z:=
lt (ieq (b.getD 0 0) 0&&(ieq (b.getD 1 0) 0&&(ieq (b.getD 2 0) 0&&(ieq (b.getD 3 0) 0&&true)))) fun v620=>
bif v620 then
rt ([0,0,0,0],[0,0,0,0],1)
else
lt (dA.r a [0,0,0,0] b) fun w621=>
rq w621.1<|
rt (w621.2.1,w621.2.2,0)
noncomputable def r (a:(List Int)) (b:(List Int)):Bool×X:=g chk (fun x=>(true,x)) a b
noncomputable def D:aP:=Dof (P:=Tryz.prog) [dA.ent]
noncomputable def tab:List (Nat×LE Res):= []
set_option maxRecDepth 100000 in
theorem run (a:(List Int)) (b:(List Int)):aQ E0 [true,true,true] D (aJ E0 D tab 9) Tryz.f73 (codeOf Tryz.f73) [.val ⟨.arr 4 (.int .u64),a⟩,.val ⟨.arr 4 (.int .u64),b⟩] []=g (fun c z=>req c z) (fun x=>some (res x)) a b:=by kernel_rfl
theorem rel (a:(List Int)) (b:(List Int)):J (fun w z=>z=some (res w)) (g chk (fun x=>(true,x)) a b) (g (fun c z=>req c z) (fun x=>some (res x)) a b):=by
 unfold g
 with_reducible repeat (first|(apply J.lt; intro _)|apply J.rq|apply J.bif|exact J.rt rfl)
theorem ok:dD Tryz.f73=true:=by kernel_rfl
abbrev aS:List AS:= [.one (.val (.arr 4 (.int .u64))),.one (.val (.arr 4 (.int .u64)))]
abbrev bS:List Ty:= []
noncomputable def F (x:ASs aS) (y:Bs bS):Brn Res:=brn (r x.1 x.2.1)
theorem good (x:ASs aS) (y:Bs bS) (h:(F x y).res.1=true):Good Tryz.prog 73 (ASs.mk aS x) (Bs.mk bS y) (F x y).res.2:=
 aF hE0 (aA _) Tryz.func73 ok aO aj (run x.1 x.2.1) (rel x.1 x.2.1) h
noncomputable def ent:Ent Tryz.prog:=⟨73,shF aS bS F,aB good⟩
end kX
namespace dW
abbrev X:Type:=Bool
noncomputable def res (x:Bool):Res:=⟨[.val ⟨.bool,x⟩],[],[]⟩
noncomputable def brn (w:Bool×X):Brn Res:= .one w.1 (res w.2)
theorem aj (w:Bool×X):(brn w).res=(w.1,res w.2):=rfl
noncomputable def g {Z:Type} (rq:Bool→Z→Z) (rt:X→Z) (rx:(Option aG)):Z:=
lt (!rx.isNone) fun (v629:Bool)=>
bif v629 then
lt (rx.getD eu) fun (v630:aG)=>
rq rx.isSome<|
lt (v630.2.1 != 0) fun (v631:Bool)=>
rt v631
else
rt false
noncomputable def r (rx:(Option aG)):Bool×X:=g chk (fun x=>(true,x)) rx
noncomputable def D:aP:=Dof (P:=Tryz.prog) []
noncomputable def tab:List (Nat×LE Res):= []
set_option maxRecDepth 100000 in
theorem run (rx:(Option aG)):aQ E0 [true] D (aJ E0 D tab 9) Tryz.f50 (codeOf Tryz.f50) [.val ⟨.ref bW,rx⟩] []=g (fun c z=>req c z) (fun x=>some (res x)) rx:=by kernel_rfl
theorem rel (rx:(Option aG)):J (fun w z=>z=some (res w)) (g chk (fun x=>(true,x)) rx) (g (fun c z=>req c z) (fun x=>some (res x)) rx):=by
 unfold g
 with_reducible repeat (first|(apply J.lt; intro _)|apply J.rq|apply J.bif|exact J.rt rfl)
theorem ok:dD Tryz.f50=true:=by kernel_rfl
abbrev aS:List AS:= [.one (.val (.ref bW))]
abbrev bS:List Ty:= []
noncomputable def F (x:ASs aS) (y:Bs bS):Brn Res:=brn (r x.1)
theorem good (x:ASs aS) (y:Bs bS) (h:(F x y).res.1=true):Good Tryz.prog 50 (ASs.mk aS x) (Bs.mk bS y) (F x y).res.2:=
 aF hE0 (aA _) Tryz.func50 ok aO aj (run x.1) (rel x.1) h
noncomputable def ent:Ent Tryz.prog:=⟨50,shF aS bS F,aB good⟩
end dW
namespace iN
abbrev X:Type:=(List Int)
noncomputable def res (x:(List Int)):Res:=⟨[.val ⟨.arr 4 (.int .u64),x⟩],[],[]⟩
noncomputable def brn (w:Bool×X):Brn Res:= .one w.1 (res w.2)
theorem aj (w:Bool×X):(brn w).res=(w.1,res w.2):=rfl
noncomputable def g {Z:Type} (rq:Bool→Z→Z) (rt:X→Z) (rx:(Option aG)) (a:(List Int)):Z:=
lt (rx.getD eu) fun (v645:aG)=>
rq rx.isSome<|
lt (jm.r a v645.1) fun w646=>
rq w646.1<|
lt (ilt w646.2 0) fun v647=>
bif v647 then
rt a
else
lt (rx.getD eu) fun (v648:aG)=>
rq rx.isSome<|
lt (gK.r a [0,0,0,0] v648.1) fun w649=>
rq w649.1<|
rt w649.2.1
noncomputable def r (rx:(Option aG)) (a:(List Int)):Bool×X:=g chk (fun x=>(true,x)) rx a
noncomputable def D:aP:=Dof (P:=Tryz.prog) [jm.ent,gK.ent]
noncomputable def tab:List (Nat×LE Res):= []
set_option maxRecDepth 100000 in
theorem run (rx:(Option aG)) (a:(List Int)):aQ E0 [true] D (aJ E0 D tab 9) Tryz.f95 (codeOf Tryz.f95) [.val ⟨.ref bW,rx⟩,.val ⟨.arr 4 (.int .u64),a⟩] []=g (fun c z=>req c z) (fun x=>some (res x)) rx a:=by kernel_rfl
theorem rel (rx:(Option aG)) (a:(List Int)):J (fun w z=>z=some (res w)) (g chk (fun x=>(true,x)) rx a) (g (fun c z=>req c z) (fun x=>some (res x)) rx a):=by
 unfold g
 with_reducible repeat (first|(apply J.lt; intro _)|apply J.rq|apply J.bif|exact J.rt rfl)
theorem ok:dD Tryz.f95=true:=by kernel_rfl
abbrev aS:List AS:= [.one (.val (.ref bW)),.one (.val (.arr 4 (.int .u64)))]
abbrev bS:List Ty:= []
noncomputable def F (x:ASs aS) (y:Bs bS):Brn Res:=brn (r x.1 x.2.1)
theorem good (x:ASs aS) (y:Bs bS) (h:(F x y).res.1=true):Good Tryz.prog 95 (ASs.mk aS x) (Bs.mk bS y) (F x y).res.2:=
 aF hE0 (aA _) Tryz.func95 ok aO aj (run x.1 x.2.1) (rel x.1 x.2.1) h
noncomputable def ent:Ent Tryz.prog:=⟨95,shF aS bS F,aB good⟩
end iN
namespace gU
abbrev X:Type:=(List Int)
noncomputable def res (x:(List Int)):Res:=⟨[.val ⟨.arr 6 (.int .u64),x⟩],[],[]⟩
noncomputable def brn (w:Bool×X):Brn Res:= .one w.1 (res w.2)
theorem aj (w:Bool×X):(brn w).res=(w.1,res w.2):=rfl
noncomputable def g {Z:Type} (rq:Bool→Z→Z) (rt:X→Z) (t:(List Int)) (xx:Int) (b:(List Int)):Z:=
lt (b.getD 0 0) fun (v693:Int)=>
lt (ic.r xx v693) fun w694=>
rq w694.1<|
lt (t.getD 0 0) fun (v695:Int)=>
lt ((w694.2.2+v695+(0:Int))%18446744073709551616) fun (v696:Int)=>
lt ((w694.2.2+v695+(0:Int))/18446744073709551616) fun (v697:Int)=>
rq (((ile 0 w694.2.2&&ile 0 v695)&&ile 0 (0:Int))&&ile (0:Int) 1)<|
lt (IntKind.u64.wrap (w694.2.1+v697)) fun v698=>
lt ((v696+(0:Int)+(0:Int))%18446744073709551616) fun (v699:Int)=>
lt ((v696+(0:Int)+(0:Int))/18446744073709551616) fun (v700:Int)=>
rq (((ile 0 v696&&ile 0 (0:Int))&&ile 0 (0:Int))&&ile (0:Int) 1)<|
lt (IntKind.u64.wrap (v698+v700)) fun v701=>
lt (t.set 0 v699) fun (v702:(List Int))=>
lt (b.getD 1 0) fun (v703:Int)=>
lt (ic.r xx v703) fun w704=>
rq w704.1<|
lt (v702.getD 1 0) fun (v705:Int)=>
lt ((w704.2.2+v705+(0:Int))%18446744073709551616) fun (v706:Int)=>
lt ((w704.2.2+v705+(0:Int))/18446744073709551616) fun (v707:Int)=>
rq (((ile 0 w704.2.2&&ile 0 v705)&&ile 0 (0:Int))&&ile (0:Int) 1)<|
lt (IntKind.u64.wrap (w704.2.1+v707)) fun v708=>
lt ((v706+v701+(0:Int))%18446744073709551616) fun (v709:Int)=>
lt ((v706+v701+(0:Int))/18446744073709551616) fun (v710:Int)=>
rq (((ile 0 v706&&ile 0 v701)&&ile 0 (0:Int))&&ile (0:Int) 1)<|
lt (IntKind.u64.wrap (v708+v710)) fun v711=>
lt (v702.set 1 v709) fun (v712:(List Int))=>
lt (b.getD 2 0) fun (v713:Int)=>
lt (ic.r xx v713) fun w714=>
rq w714.1<|
lt (v712.getD 2 0) fun (v715:Int)=>
lt ((w714.2.2+v715+(0:Int))%18446744073709551616) fun (v716:Int)=>
lt ((w714.2.2+v715+(0:Int))/18446744073709551616) fun (v717:Int)=>
rq (((ile 0 w714.2.2&&ile 0 v715)&&ile 0 (0:Int))&&ile (0:Int) 1)<|
lt (IntKind.u64.wrap (w714.2.1+v717)) fun v718=>
lt ((v716+v711+(0:Int))%18446744073709551616) fun (v719:Int)=>
lt ((v716+v711+(0:Int))/18446744073709551616) fun (v720:Int)=>
rq (((ile 0 v716&&ile 0 v711)&&ile 0 (0:Int))&&ile (0:Int) 1)<|
lt (IntKind.u64.wrap (v718+v720)) fun v721=>
lt (v712.set 2 v719) fun (v722:(List Int))=>
lt (b.getD 3 0) fun (v723:Int)=>
lt (ic.r xx v723) fun w724=>
rq w724.1<|
lt (v722.getD 3 0) fun (v725:Int)=>
lt ((w724.2.2+v725+(0:Int))%18446744073709551616) fun (v726:Int)=>
lt ((w724.2.2+v725+(0:Int))/18446744073709551616) fun (v727:Int)=>
rq (((ile 0 w724.2.2&&ile 0 v725)&&ile 0 (0:Int))&&ile (0:Int) 1)<|
lt (IntKind.u64.wrap (w724.2.1+v727)) fun v728=>
lt ((v726+v721+(0:Int))%18446744073709551616) fun (v729:Int)=>
lt ((v726+v721+(0:Int))/18446744073709551616) fun (v730:Int)=>
rq (((ile 0 v726&&ile 0 v721)&&ile 0 (0:Int))&&ile (0:Int) 1)<|
lt (IntKind.u64.wrap (v728+v730)) fun v731=>
lt (v722.set 3 v729) fun (v732:(List Int))=>
lt (v732.getD 4 0) fun (v733:Int)=>
lt ((v733+v731+(0:Int))%18446744073709551616) fun (v734:Int)=>
lt ((v733+v731+(0:Int))/18446744073709551616) fun (v735:Int)=>
rq (((ile 0 v733&&ile 0 v731)&&ile 0 (0:Int))&&ile (0:Int) 1)<|
lt (v732.set 4 v734) fun (v736:(List Int))=>
lt (v736.getD 5 0) fun (v737:Int)=>
lt (IntKind.u64.wrap (v737+v735)) fun v738=>
lt (v736.set 5 v738) fun (v739:(List Int))=>
rt v739
noncomputable def r (t:(List Int)) (xx:Int) (b:(List Int)):Bool×X:=g chk (fun x=>(true,x)) t xx b
noncomputable def D:aP:=Dof (P:=Tryz.prog) [ic.ent,pU]
noncomputable def tab:List (Nat×LE Res):= []
set_option maxRecDepth 100000 in
theorem run (t:(List Int)) (xx:Int) (b:(List Int)):aQ E0 [true] D (aJ E0 D tab 9) Tryz.f106 (codeOf Tryz.f106) [.val ⟨.arr 6 (.int .u64),t⟩,.val ⟨.int .u64,xx⟩,.val ⟨.arr 4 (.int .u64),b⟩] []=g (fun c z=>req c z) (fun x=>some (res x)) t xx b:=by kernel_rfl
theorem rel (t:(List Int)) (xx:Int) (b:(List Int)):J (fun w z=>z=some (res w)) (g chk (fun x=>(true,x)) t xx b) (g (fun c z=>req c z) (fun x=>some (res x)) t xx b):=by
 unfold g
 with_reducible repeat (first|(apply J.lt; intro _)|apply J.rq|apply J.bif|exact J.rt rfl)
theorem ok:dD Tryz.f106=true:=by kernel_rfl
abbrev aS:List AS:= [.one (.val (.arr 6 (.int .u64))),.one (.val (.int .u64)),.one (.val (.arr 4 (.int .u64)))]
abbrev bS:List Ty:= []
noncomputable def F (x:ASs aS) (y:Bs bS):Brn Res:=brn (r x.1 x.2.1 x.2.2.1)
theorem good (x:ASs aS) (y:Bs bS) (h:(F x y).res.1=true):Good Tryz.prog 106 (ASs.mk aS x) (Bs.mk bS y) (F x y).res.2:=
 aF hE0 (aA _) Tryz.func106 ok aO aj (run x.1 x.2.1 x.2.2.1) (rel x.1 x.2.1 x.2.2.1) h
noncomputable def ent:Ent Tryz.prog:=⟨106,shF aS bS F,aB good⟩
end gU
namespace bJ
abbrev X:Type:=(List Int)
noncomputable def res (x:(List Int)):Res:=⟨[.val ⟨.arr 4 (.int .u64),x⟩],[],[]⟩
noncomputable def brn (w:Bool×X):Brn Res:= .one w.1 (res w.2)
theorem aj (w:Bool×X):(brn w).res=(w.1,res w.2):=rfl
noncomputable def g {Z:Type} (rq:Bool→Z→Z) (rt:X→Z) (rx:(Option aG)) (a:(List Int)) (b:(List Int)):Z:=
lt (a.getD 0 0) fun (v779:Int)=>
lt (gU.r [0,0,0,0,0,0] v779 b) fun w780=>
rq w780.1<|
lt (w780.2.getD 0 0) fun (v781:Int)=>
lt (rx.getD eu) fun (v782:aG)=>
rq rx.isSome<|
lt (IntKind.u64.wrap (v781*v782.2.1)) fun v783=>
lt (rx.getD eu) fun (v784:aG)=>
rq rx.isSome<|
lt (gU.r w780.2 v783 v784.1) fun w785=>
rq w785.1<|
lt (over w785.2 0 (((w785.2.drop 1).take 5).take 6)) fun (v786:(List Int))=>
lt ((min 6 (((w785.2.drop 1).take 5).length):Nat):Int) fun (v787:Int)=>
lt (v786.set 5 0) fun (v788:(List Int))=>
lt (a.getD 1 0) fun (v789:Int)=>
lt (gU.r v788 v789 b) fun w790=>
rq w790.1<|
lt (w790.2.getD 0 0) fun (v791:Int)=>
lt (rx.getD eu) fun (v792:aG)=>
rq rx.isSome<|
lt (IntKind.u64.wrap (v791*v792.2.1)) fun v793=>
lt (rx.getD eu) fun (v794:aG)=>
rq rx.isSome<|
lt (gU.r w790.2 v793 v794.1) fun w795=>
rq w795.1<|
lt (over w795.2 0 (((w795.2.drop 1).take 5).take 6)) fun (v796:(List Int))=>
lt ((min 6 (((w795.2.drop 1).take 5).length):Nat):Int) fun (v797:Int)=>
lt (v796.set 5 0) fun (v798:(List Int))=>
lt (a.getD 2 0) fun (v799:Int)=>
lt (gU.r v798 v799 b) fun w800=>
rq w800.1<|
lt (w800.2.getD 0 0) fun (v801:Int)=>
lt (rx.getD eu) fun (v802:aG)=>
rq rx.isSome<|
lt (IntKind.u64.wrap (v801*v802.2.1)) fun v803=>
lt (rx.getD eu) fun (v804:aG)=>
rq rx.isSome<|
lt (gU.r w800.2 v803 v804.1) fun w805=>
rq w805.1<|
lt (over w805.2 0 (((w805.2.drop 1).take 5).take 6)) fun (v806:(List Int))=>
lt ((min 6 (((w805.2.drop 1).take 5).length):Nat):Int) fun (v807:Int)=>
lt (v806.set 5 0) fun (v808:(List Int))=>
lt (a.getD 3 0) fun (v809:Int)=>
lt (gU.r v808 v809 b) fun w810=>
rq w810.1<|
lt (w810.2.getD 0 0) fun (v811:Int)=>
lt (rx.getD eu) fun (v812:aG)=>
rq rx.isSome<|
lt (IntKind.u64.wrap (v811*v812.2.1)) fun v813=>
lt (rx.getD eu) fun (v814:aG)=>
rq rx.isSome<|
lt (gU.r w810.2 v813 v814.1) fun w815=>
rq w815.1<|
lt (over w815.2 0 (((w815.2.drop 1).take 5).take 6)) fun (v816:(List Int))=>
lt ((min 6 (((w815.2.drop 1).take 5).length):Nat):Int) fun (v817:Int)=>
lt (v816.set 5 0) fun (v818:(List Int))=>
lt (v818.take 4) fun (v819:(List Int))=>
lt (v818.getD 4 0) fun (v820:Int)=>
lt (v820 != 0) fun (v821:Bool)=>
bif v821 then
lt (rx.getD eu) fun (v822:aG)=>
rq rx.isSome<|
lt (jI.r v819 v822.1) fun w823=>
rq w823.1<|
rt w823.2.1
else
lt (rx.getD eu) fun (v824:aG)=>
rq rx.isSome<|
lt (jm.r v819 v824.1) fun w825=>
rq w825.1<|
lt (ile 0 w825.2) fun v826=>
bif v826 then
lt (rx.getD eu) fun (v827:aG)=>
rq rx.isSome<|
lt (jI.r v819 v827.1) fun w828=>
rq w828.1<|
rt w828.2.1
else
rt v819
noncomputable def r (rx:(Option aG)) (a:(List Int)) (b:(List Int)):Bool×X:=g chk (fun x=>(true,x)) rx a b
noncomputable def D:aP:=Dof (P:=Tryz.prog) [gU.ent,jI.ent,jm.ent]
noncomputable def tab:List (Nat×LE Res):= []
set_option maxRecDepth 100000 in
theorem run (rx:(Option aG)) (a:(List Int)) (b:(List Int)):aQ E0 [true] D (aJ E0 D tab 9) Tryz.f82 (codeOf Tryz.f82) [.val ⟨.ref bW,rx⟩,.val ⟨.arr 4 (.int .u64),a⟩,.val ⟨.arr 4 (.int .u64),b⟩] []=g (fun c z=>req c z) (fun x=>some (res x)) rx a b:=by kernel_rfl
theorem rel (rx:(Option aG)) (a:(List Int)) (b:(List Int)):J (fun w z=>z=some (res w)) (g chk (fun x=>(true,x)) rx a b) (g (fun c z=>req c z) (fun x=>some (res x)) rx a b):=by
 unfold g
 with_reducible repeat (first|(apply J.lt; intro _)|apply J.rq|apply J.bif|exact J.rt rfl)
theorem ok:dD Tryz.f82=true:=by kernel_rfl
abbrev aS:List AS:= [.one (.val (.ref bW)),.one (.val (.arr 4 (.int .u64))),.one (.val (.arr 4 (.int .u64)))]
abbrev bS:List Ty:= []
noncomputable def F (x:ASs aS) (y:Bs bS):Brn Res:=brn (r x.1 x.2.1 x.2.2.1)
theorem good (x:ASs aS) (y:Bs bS) (h:(F x y).res.1=true):Good Tryz.prog 82 (ASs.mk aS x) (Bs.mk bS y) (F x y).res.2:=
 aF hE0 (aA _) Tryz.func82 ok aO aj (run x.1 x.2.1 x.2.2.1) (rel x.1 x.2.1 x.2.2.1) h
noncomputable def ent:Ent Tryz.prog:=⟨82,shF aS bS F,aB good⟩
end bJ
namespace iC
abbrev X:Type:=(List Int)
noncomputable def res (x:(List Int)):Res:=⟨[.val ⟨.arr 4 (.int .u64),x⟩],[],[]⟩
noncomputable def brn (w:Bool×X):Brn Res:= .one w.1 (res w.2)
theorem aj (w:Bool×X):(brn w).res=(w.1,res w.2):=rfl
noncomputable def g {Z:Type} (rq:Bool→Z→Z) (rt:X→Z) (rx:(Option aG)) (a:(List Int)):Z:=
lt (dW.r rx) fun w643=>
rq w643.1<|
lt (!w643.2) fun (v644:Bool)=>
bif v644 then
rt [0,0,0,0]
else
lt (iN.r rx a) fun w650=>
rq w650.1<|
lt (rx.getD eu) fun (v651:aG)=>
rq rx.isSome<|
lt (bJ.r rx w650.2 v651.2.2.2.1) fun w829=>
rq w829.1<|
rt w829.2
noncomputable def r (rx:(Option aG)) (a:(List Int)):Bool×X:=g chk (fun x=>(true,x)) rx a
noncomputable def D:aP:=Dof (P:=Tryz.prog) [dW.ent,iN.ent,bJ.ent]
noncomputable def tab:List (Nat×LE Res):= []
set_option maxRecDepth 100000 in
theorem run (rx:(Option aG)) (a:(List Int)):aQ E0 [true] D (aJ E0 D tab 9) Tryz.f94 (codeOf Tryz.f94) [.val ⟨.ref bW,rx⟩,.val ⟨.arr 4 (.int .u64),a⟩] []=g (fun c z=>req c z) (fun x=>some (res x)) rx a:=by kernel_rfl
theorem rel (rx:(Option aG)) (a:(List Int)):J (fun w z=>z=some (res w)) (g chk (fun x=>(true,x)) rx a) (g (fun c z=>req c z) (fun x=>some (res x)) rx a):=by
 unfold g
 with_reducible repeat (first|(apply J.lt; intro _)|apply J.rq|apply J.bif|exact J.rt rfl)
theorem ok:dD Tryz.f94=true:=by kernel_rfl
abbrev aS:List AS:= [.one (.val (.ref bW)),.one (.val (.arr 4 (.int .u64)))]
abbrev bS:List Ty:= []
noncomputable def F (x:ASs aS) (y:Bs bS):Brn Res:=brn (r x.1 x.2.1)
theorem good (x:ASs aS) (y:Bs bS) (h:(F x y).res.1=true):Good Tryz.prog 94 (ASs.mk aS x) (Bs.mk bS y) (F x y).res.2:=
 aF hE0 (aA _) Tryz.func94 ok aO aj (run x.1 x.2.1) (rel x.1 x.2.1) h
noncomputable def ent:Ent Tryz.prog:=⟨94,shF aS bS F,aB good⟩
end iC
namespace eD
abbrev X:Type:=(List (List Int))
noncomputable def res (x:(List (List Int))):Res:=⟨[.val ⟨.arr 16 (.arr 4 (.int .u64)),x⟩],[],[]⟩
noncomputable def brn (w:Bool×X):Brn Res:= .one w.1 (res w.2)
theorem aj (w:Bool×X):(brn w).res=(w.1,res w.2):=rfl
abbrev sh0:List (Nat×Sh):= [(0,.p (.ref bW)),(4,.pb 500000 (.arr 16 (.arr 4 (.int .u64))) []),(5,.pb 500001 (.arr 16 (.arr 4 (.int .u64))) []),(6,.pb 500002 (.arr 4 (.int .u64)) []),(7,.p (.int .i64))]
abbrev bx0:List (Nat×Ty):= [(500000,.arr 16 (.arr 4 (.int .u64))),(500001,.arr 16 (.arr 4 (.int .u64))),(500002,.arr 4 (.int .u64))]
abbrev aW:List (Nat×Ty):= [(500000,.arr 16 (.arr 4 (.int .u64))),(500001,.arr 16 (.arr 4 (.int .u64))),(500002,.arr 4 (.int .u64))]
abbrev aM:List (Nat×Sh):= []
abbrev aN:List (Nat×Ty):= []
abbrev bC:List (Nat×Ty):= []
abbrev X0:Type:=(Option aG)×Unit×Unit×Unit×Int×Unit
abbrev Y0:Type:=(List (List Int))×(List (List Int))×(List Int)×Unit
abbrev U0:Type:=Unit
abbrev V0:Type:=Unit
noncomputable def g0 {Z:Type} (rq:Bool→Z→Z) (kn:X0→Y0→Z) (ke:Nat→X0→Y0→Z) (kr:U0→V0→Z) (x:X0) (y:Y0):Z:=
lt (ilt x.2.2.2.2.1 16) fun v841=>
bif v841 then
lt (IntKind.i64.wrap (x.2.2.2.2.1 - 1)) fun v842=>
rq (ile (0:Int) v842&&ilt v842 16)<|
lt (y.2.1.getD v842.toNat [0,0,0,0]) fun (v843:(List Int))=>
lt (bJ.r x.1 v843 y.2.2.1) fun w844=>
rq w844.1<|
rq (ile (0:Int) x.2.2.2.2.1&&ilt x.2.2.2.2.1 16)<|
lt (y.2.1.set x.2.2.2.2.1.toNat w844.2) fun (v845:(List (List Int)))=>
lt (IntKind.i64.wrap (x.2.2.2.2.1+1)) fun v846=>
kn (x.1,(),(),(),v846,()) (y.1,v845,y.2.2.1,())
else
ke 0 (x.1,(),(),(),x.2.2.2.2.1,()) (y.1,y.2.1,y.2.2.1,())
noncomputable def fu0 (x:X0) (y:Y0):Nat:=((16:Int) - x.2.2.2.2.1).toNat+1
noncomputable def l0 (x:X0) (y:Y0):Bool×Nat×X0×Y0×U0×V0:=rounds (fun rq kn ke kr x y=>g0 rq kn ke kr x y) () () (fu0 x y) x y
noncomputable def g {Z:Type} (rq:Bool→Z→Z) (rt:X→Z) (rx:(Option aG)) (a:(List Int)):Z:=
lt (iC.r rx a) fun w830=>
rq w830.1<|
lt (rx.getD eu) fun (v831:aG)=>
rq rx.isSome<|
lt (eD.l0 (rx,(),(),(),1,()) ([[0,0,0,0],[0,0,0,0],[0,0,0,0],[0,0,0,0],[0,0,0,0],[0,0,0,0],[0,0,0,0],[0,0,0,0],[0,0,0,0],[0,0,0,0],[0,0,0,0],[0,0,0,0],[0,0,0,0],[0,0,0,0],[0,0,0,0],[0,0,0,0]],[v831.2.2.1,[0,0,0,0],[0,0,0,0],[0,0,0,0],[0,0,0,0],[0,0,0,0],[0,0,0,0],[0,0,0,0],[0,0,0,0],[0,0,0,0],[0,0,0,0],[0,0,0,0],[0,0,0,0],[0,0,0,0],[0,0,0,0],[0,0,0,0]],w830.2,())) fun w847=>
rq w847.1<|
rt w847.2.2.2.1.2.1
noncomputable def r (rx:(Option aG)) (a:(List Int)):Bool×X:=g chk (fun x=>(true,x)) rx a
noncomputable def D:aP:=Dof (P:=Tryz.prog) [iC.ent,bJ.ent]
noncomputable def tab:List (Nat×LE Res):= [(6,.typed (fH 30 sh0 bx0 aW aM aN (bf [1] (rounds (fun rq kn ke kr x y=>g0 rq kn ke kr x y) () ()) fu0)))]
set_option maxRecDepth 100000 in
theorem run (rx:(Option aG)) (a:(List Int)):aQ E0 [true] D (aJ E0 D tab 9) Tryz.f78 (codeOf Tryz.f78) [.val ⟨.ref bW,rx⟩,.val ⟨.arr 4 (.int .u64),a⟩] []=g (fun c z=>req c z) (fun x=>some (res x)) rx a:=by kernel_rfl
theorem rel (rx:(Option aG)) (a:(List Int)):J (fun w z=>z=some (res w)) (g chk (fun x=>(true,x)) rx a) (g (fun c z=>req c z) (fun x=>some (res x)) rx a):=by
 unfold g
 with_reducible repeat (first|(apply J.lt; intro _)|apply J.rq|apply J.bif|exact J.rt rfl)
set_option maxRecDepth 100000 in
theorem bG (x:ShX sh0) (y:BxX bx0) (kn:ShX sh0→BxX bx0→Option Res) (ke:Nat→ShX sh0→BxX bx0→Option Res) (kr:ShX aM→BxX aN→Option Res):d9 E0 D (aJ E0 D tab 8) (aD (codeOf Tryz.f78) 0) (inj 30 sh0 bx0 x y) (dN sh0 bx0 aW aM aN bC kn ke kr)=g0 (fun c z=>req c z) kn ke kr x y:=by kernel_rfl
theorem cB:Nonempty (Told E0 D tab Tryz.f78.ntmps (aD (codeOf Tryz.f78) 0) 30 sh0 bx0 aW aM aN (bf [1] (rounds (fun rq kn ke kr x y=>g0 rq kn ke kr x y) () ()) fu0)):=
 dh (sh:=sh0) (bx:=bx0) (ord:=aW) (shR:=aM) (bxR:=aN) bC 8 (by kernel_rfl) (by kernel_rfl) (by kernel_rfl) [1] fu0 () () (fun rq kn ke kr x y=>g0 rq kn ke kr x y) (fun rq kn ke kr x y=>g0 rq kn ke kr x y) (bG) (by
  intro φ kn1 kn2 ke1 ke2 kr1 kr2 h1 h2 h3 x y
  simp only [g0]
  with_reducible repeat (first|(apply J.lt; intro _)|apply J.rq|apply J.bif|exact h1 _ _|exact h2 _ (by decide) _ _|exact h3 (by decide) _ _))
theorem cK:fQ E0 D tab Tryz.f78.ntmps (codeOf Tryz.f78):=bY (bs:= [aD (codeOf Tryz.f78) 0]) (by kernel_rfl) (aK (cZ (by kernel_rfl) (cB)) bn)
theorem ok:dD Tryz.f78=true:=by kernel_rfl
abbrev aS:List AS:= [.one (.val (.ref bW)),.one (.val (.arr 4 (.int .u64)))]
abbrev bS:List Ty:= []
noncomputable def F (x:ASs aS) (y:Bs bS):Brn Res:=brn (r x.1 x.2.1)
theorem good (x:ASs aS) (y:Bs bS) (h:(F x y).res.1=true):Good Tryz.prog 78 (ASs.mk aS x) (Bs.mk bS y) (F x y).res.2:=
 aF hE0 (aA _) Tryz.func78 ok cK aj (run x.1 x.2.1) (rel x.1 x.2.1) h
noncomputable def ent:Ent Tryz.prog:=⟨78,shF aS bS F,aB good⟩
end eD
namespace qD
abbrev X:Type:=Int
noncomputable def res (x:Int):Res:=⟨[.val ⟨.int .i64,x⟩],[],[]⟩
noncomputable def brn (w:Bool×X):Brn Res:= .one w.1 (res w.2)
theorem aj (w:Bool×X):(brn w).res=(w.1,res w.2):=rfl
noncomputable def g {Z:Type} (rq:Bool→Z→Z) (rt:X→Z) (a:(List Int)):Z:=
lt (a.getD 3 0) fun (v870:Int)=>
lt (v870 != 0) fun (v871:Bool)=>
bif v871 then
lt (a.getD 3 0) fun (v872:Int)=>
lt (iU.r v872) fun w873=>
rq w873.1<|
lt (IntKind.i64.wrap ((192:Int)+w873.2)) fun v874=>
rt v874
else
lt (a.getD 2 0) fun (v875:Int)=>
lt (v875 != 0) fun (v876:Bool)=>
bif v876 then
lt (a.getD 2 0) fun (v877:Int)=>
lt (iU.r v877) fun w878=>
rq w878.1<|
lt (IntKind.i64.wrap ((128:Int)+w878.2)) fun v879=>
rt v879
else
lt (a.getD 1 0) fun (v880:Int)=>
lt (v880 != 0) fun (v881:Bool)=>
bif v881 then
lt (a.getD 1 0) fun (v882:Int)=>
lt (iU.r v882) fun w883=>
rq w883.1<|
lt (IntKind.i64.wrap ((64:Int)+w883.2)) fun v884=>
rt v884
else
lt (a.getD 0 0) fun (v885:Int)=>
lt (v885 != 0) fun (v886:Bool)=>
bif v886 then
lt (a.getD 0 0) fun (v887:Int)=>
lt (iU.r v887) fun w888=>
rq w888.1<|
lt (IntKind.i64.wrap ((0:Int)+w888.2)) fun v889=>
rt v889
else
rt 0
noncomputable def r (a:(List Int)):Bool×X:=g chk (fun x=>(true,x)) a
noncomputable def D:aP:=Dof (P:=Tryz.prog) [iU.ent]
noncomputable def tab:List (Nat×LE Res):= []
set_option maxRecDepth 100000 in
theorem run (a:(List Int)):aQ E0 [true] D (aJ E0 D tab 9) Tryz.f29 (codeOf Tryz.f29) [.val ⟨.arr 4 (.int .u64),a⟩] []=g (fun c z=>req c z) (fun x=>some (res x)) a:=by kernel_rfl
theorem rel (a:(List Int)):J (fun w z=>z=some (res w)) (g chk (fun x=>(true,x)) a) (g (fun c z=>req c z) (fun x=>some (res x)) a):=by
 unfold g
 with_reducible repeat (first|(apply J.lt; intro _)|apply J.rq|apply J.bif|exact J.rt rfl)
theorem ok:dD Tryz.f29=true:=by kernel_rfl
abbrev aS:List AS:= [.one (.val (.arr 4 (.int .u64)))]
abbrev bS:List Ty:= []
noncomputable def F (x:ASs aS) (y:Bs bS):Brn Res:=brn (r x.1)
theorem good (x:ASs aS) (y:Bs bS) (h:(F x y).res.1=true):Good Tryz.prog 29 (ASs.mk aS x) (Bs.mk bS y) (F x y).res.2:=
 aF hE0 (aA _) Tryz.func29 ok aO aj (run x.1) (rel x.1) h
noncomputable def ent:Ent Tryz.prog:=⟨29,shF aS bS F,aB good⟩
end qD
namespace jf
abbrev X:Type:=(List Int)
noncomputable def res (x:(List Int)):Res:=⟨[.val ⟨.arr 4 (.int .u64),x⟩],[],[]⟩
noncomputable def brn (w:Bool×X):Brn Res:= .one w.1 (res w.2)
theorem aj (w:Bool×X):(brn w).res=(w.1,res w.2):=rfl
abbrev sh0:List (Nat×Sh):= [(2,.pb 500000 (.arr 4 (.int .u64)) []),(4,.pb 500001 (.arr 4 (.int .u64)) []),(5,.pb 500002 (.arr 4 (.int .u64)) []),(6,.p (.int .i64)),(7,.p (.int .i64)),(20,.p (.int .i64)),(21,.p (.int .i64))]
abbrev bx0:List (Nat×Ty):= [(500000,.arr 4 (.int .u64)),(500001,.arr 4 (.int .u64)),(500002,.arr 4 (.int .u64))]
abbrev aW:List (Nat×Ty):= [(500000,.arr 4 (.int .u64)),(500001,.arr 4 (.int .u64)),(500002,.arr 4 (.int .u64))]
abbrev aM:List (Nat×Sh):= []
abbrev aN:List (Nat×Ty):= []
abbrev bC:List (Nat×Ty):= []
abbrev X0:Type:=Unit×Unit×Unit×Int×Int×Int×Int×Unit
abbrev Y0:Type:=(List Int)×(List Int)×(List Int)×Unit
abbrev U0:Type:=Unit
abbrev V0:Type:=Unit
noncomputable def g0 {Z:Type} (rq:Bool→Z→Z) (kn:X0→Y0→Z) (ke:Nat→X0→Y0→Z) (kr:U0→V0→Z) (x:X0) (y:Y0):Z:=
lt (ilt x.2.2.2.2.2.2.1 x.2.2.2.2.2.1) fun v937=>
bif v937 then
lt (IntKind.i64.wrap (x.2.2.2.2.2.2.1+x.2.2.2.1)) fun v938=>
rq (ile (0:Int) v938&&ilt v938 4)<|
lt (y.1.getD v938.toNat 0) fun (v939:Int)=>
lt (v939.fdiv (2^(min x.2.2.2.2.1.toNat 64))) fun (v940:Int)=>
rq (!ilt x.2.2.2.2.1 0)<|
rq (ile (0:Int) x.2.2.2.2.2.2.1&&ilt x.2.2.2.2.2.2.1 4)<|
lt (y.2.2.1.set x.2.2.2.2.2.2.1.toNat v940) fun (v941:(List Int))=>
lt (IntKind.i64.wrap (x.2.2.2.2.2.2.1+x.2.2.2.1)) fun v942=>
lt (IntKind.i64.wrap (v942+1)) fun v943=>
lt (ilt v943 4) fun v944=>
bif v944 then
rq (ile (0:Int) x.2.2.2.2.2.2.1&&ilt x.2.2.2.2.2.2.1 4)<|
lt (v941.getD x.2.2.2.2.2.2.1.toNat 0) fun (v945:Int)=>
lt (IntKind.i64.wrap (x.2.2.2.2.2.2.1+x.2.2.2.1)) fun v946=>
lt (IntKind.i64.wrap (v946+1)) fun v947=>
rq (ile (0:Int) v947&&ilt v947 4)<|
lt (y.1.getD v947.toNat 0) fun (v948:Int)=>
lt (IntKind.i64.wrap ((64:Int) - x.2.2.2.2.1)) fun v949=>
lt (IntKind.u64.wrap (v948*2^(min v949.toNat 64))) fun v950=>
rq (!ilt v949 0)<|
lt (eB .u64 (· ||| ·) v945 v950) fun v951=>
rq (ile (0:Int) x.2.2.2.2.2.2.1&&ilt x.2.2.2.2.2.2.1 4)<|
lt (v941.set x.2.2.2.2.2.2.1.toNat v951) fun (v952:(List Int))=>
lt (IntKind.i64.wrap (x.2.2.2.2.2.2.1+1)) fun v953=>
kn ((),(),(),x.2.2.2.1,x.2.2.2.2.1,x.2.2.2.2.2.1,v953,()) (y.1,y.2.1,v952,())
else
lt (IntKind.i64.wrap (x.2.2.2.2.2.2.1+1)) fun v954=>
kn ((),(),(),x.2.2.2.1,x.2.2.2.2.1,x.2.2.2.2.2.1,v954,()) (y.1,y.2.1,v941,())
else
ke 0 ((),(),(),x.2.2.2.1,x.2.2.2.2.1,x.2.2.2.2.2.1,x.2.2.2.2.2.2.1,()) (y.1,y.2.1,y.2.2.1,())
noncomputable def fu0 (x:X0) (y:Y0):Nat:=(x.2.2.2.2.2.1 - x.2.2.2.2.2.2.1).toNat+1
noncomputable def l0 (x:X0) (y:Y0):Bool×Nat×X0×Y0×U0×V0:=rounds (fun rq kn ke kr x y=>g0 rq kn ke kr x y) () () (fu0 x y) x y
noncomputable def g {Z:Type} (rq:Bool→Z→Z) (rt:X→Z) (a:(List Int)) (kx:Int):Z:=
lt (ilt kx 1) fun v931=>
bif v931 then
rt a
else
lt (ile 256 kx) fun v932=>
bif v932 then
rt [0,0,0,0]
else
lt (IntKind.i64.wrap (kx.tdiv 64)) fun v933=>
lt (kx.tmod 64) fun (v934:Int)=>
lt (IntKind.i64.wrap ((4:Int) - v933)) fun v935=>
lt (jf.l0 ((),(),(),v933,v934,v935,0,()) (a,[0,0,0,0],[0,0,0,0],())) fun w955=>
rq w955.1<|
rt w955.2.2.2.1.2.2.1
noncomputable def r (a:(List Int)) (kx:Int):Bool×X:=g chk (fun x=>(true,x)) a kx
noncomputable def D:aP:=Dof (P:=Tryz.prog) []
noncomputable def tab:List (Nat×LE Res):= [(9,.typed (fH 54 sh0 bx0 aW aM aN (bf [1] (rounds (fun rq kn ke kr x y=>g0 rq kn ke kr x y) () ()) fu0)))]
set_option maxRecDepth 100000 in
theorem run (a:(List Int)) (kx:Int):aQ E0 [true] D (aJ E0 D tab 9) Tryz.f80 (codeOf Tryz.f80) [.val ⟨.arr 4 (.int .u64),a⟩,.val ⟨.int .i64,kx⟩] []=g (fun c z=>req c z) (fun x=>some (res x)) a kx:=by kernel_rfl
theorem rel (a:(List Int)) (kx:Int):J (fun w z=>z=some (res w)) (g chk (fun x=>(true,x)) a kx) (g (fun c z=>req c z) (fun x=>some (res x)) a kx):=by
 unfold g
 with_reducible repeat (first|(apply J.lt; intro _)|apply J.rq|apply J.bif|exact J.rt rfl)
set_option maxRecDepth 100000 in
theorem bG (x:ShX sh0) (y:BxX bx0) (kn:ShX sh0→BxX bx0→Option Res) (ke:Nat→ShX sh0→BxX bx0→Option Res) (kr:ShX aM→BxX aN→Option Res):d9 E0 D (aJ E0 D tab 8) (aD (codeOf Tryz.f80) 0) (inj 54 sh0 bx0 x y) (dN sh0 bx0 aW aM aN bC kn ke kr)=g0 (fun c z=>req c z) kn ke kr x y:=by kernel_rfl
theorem cB:Nonempty (Told E0 D tab Tryz.f80.ntmps (aD (codeOf Tryz.f80) 0) 54 sh0 bx0 aW aM aN (bf [1] (rounds (fun rq kn ke kr x y=>g0 rq kn ke kr x y) () ()) fu0)):=
 dh (sh:=sh0) (bx:=bx0) (ord:=aW) (shR:=aM) (bxR:=aN) bC 8 (by kernel_rfl) (by kernel_rfl) (by kernel_rfl) [1] fu0 () () (fun rq kn ke kr x y=>g0 rq kn ke kr x y) (fun rq kn ke kr x y=>g0 rq kn ke kr x y) (bG) (by
  intro φ kn1 kn2 ke1 ke2 kr1 kr2 h1 h2 h3 x y
  simp only [g0]
  with_reducible repeat (first|(apply J.lt; intro _)|apply J.rq|apply J.bif|exact h1 _ _|exact h2 _ (by decide) _ _|exact h3 (by decide) _ _))
theorem cK:fQ E0 D tab Tryz.f80.ntmps (codeOf Tryz.f80):=bY (bs:= [aD (codeOf Tryz.f80) 0]) (by kernel_rfl) (aK (cZ (by kernel_rfl) (cB)) bn)
theorem ok:dD Tryz.f80=true:=by kernel_rfl
abbrev aS:List AS:= [.one (.val (.arr 4 (.int .u64))),.one (.val (.int .i64))]
abbrev bS:List Ty:= []
noncomputable def F (x:ASs aS) (y:Bs bS):Brn Res:=brn (r x.1 x.2.1)
theorem good (x:ASs aS) (y:Bs bS) (h:(F x y).res.1=true):Good Tryz.prog 80 (ASs.mk aS x) (Bs.mk bS y) (F x y).res.2:=
 aF hE0 (aA _) Tryz.func80 ok cK aj (run x.1 x.2.1) (rel x.1 x.2.1) h
noncomputable def ent:Ent Tryz.prog:=⟨80,shF aS bS F,aB good⟩
end jf
namespace iP
abbrev X:Type:=Int
noncomputable def res (x:Int):Res:=⟨[.val ⟨.int .i64,x⟩],[],[]⟩
noncomputable def brn (w:Bool×X):Brn Res:= .one w.1 (res w.2)
theorem aj (w:Bool×X):(brn w).res=(w.1,res w.2):=rfl
noncomputable def g {Z:Type} (rq:Bool→Z→Z) (rt:X→Z) (e:(List Int)) (atx:Int):Z:=
lt (jf.r e atx) fun w956=>
rq w956.1<|
lt (lH.r w956.2 252) fun w957=>
rq w957.1<|
lt (jf.r w957.2 252) fun w958=>
rq w958.1<|
lt (qE.r w958.2) fun w959=>
rq w959.1<|
rt w959.2.1
noncomputable def r (e:(List Int)) (atx:Int):Bool×X:=g chk (fun x=>(true,x)) e atx
noncomputable def D:aP:=Dof (P:=Tryz.prog) [jf.ent,lH.ent,qE.ent]
noncomputable def tab:List (Nat×LE Res):= []
set_option maxRecDepth 100000 in
theorem run (e:(List Int)) (atx:Int):aQ E0 [true] D (aJ E0 D tab 9) Tryz.f79 (codeOf Tryz.f79) [.val ⟨.arr 4 (.int .u64),e⟩,.val ⟨.int .i64,atx⟩] []=g (fun c z=>req c z) (fun x=>some (res x)) e atx:=by kernel_rfl
theorem rel (e:(List Int)) (atx:Int):J (fun w z=>z=some (res w)) (g chk (fun x=>(true,x)) e atx) (g (fun c z=>req c z) (fun x=>some (res x)) e atx):=by
 unfold g
 with_reducible repeat (first|(apply J.lt; intro _)|apply J.rq|apply J.bif|exact J.rt rfl)
theorem ok:dD Tryz.f79=true:=by kernel_rfl
abbrev aS:List AS:= [.one (.val (.arr 4 (.int .u64))),.one (.val (.int .i64))]
abbrev bS:List Ty:= []
noncomputable def F (x:ASs aS) (y:Bs bS):Brn Res:=brn (r x.1 x.2.1)
theorem good (x:ASs aS) (y:Bs bS) (h:(F x y).res.1=true):Good Tryz.prog 79 (ASs.mk aS x) (Bs.mk bS y) (F x y).res.2:=
 aF hE0 (aA _) Tryz.func79 ok aO aj (run x.1 x.2.1) (rel x.1 x.2.1) h
noncomputable def ent:Ent Tryz.prog:=⟨79,shF aS bS F,aB good⟩
end iP
end Go.Own
