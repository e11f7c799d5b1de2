/- What functions compute, printed by wip/gen/gen2.py. -/
import Derived.Test.YtapkilfcibkphaaGreatG7
set_option linter.unusedVariables false
set_option linter.unusedSimpArgs false
set_option maxRecDepth 100000
noncomputable section
namespace Go.Own
open Go.Proofs Go.Proofs.YtapkilfcibkphaaGreat
namespace bK
abbrev X:Type:=(List Int)
def res (x:(List Int)):Res:=⟨[.val ⟨.sl (.int .i64),x⟩],[],[]⟩
abbrev sh0:List (Nat×Sh):= [(0,.p (.sl (.int .i64))),(2,.nil),(3,.p (.int .i64))]
abbrev bx0:List (Nat×Ty):= []
abbrev aZ:List (Nat×Ty):= []
abbrev aY:List (Nat×Sh):= []
abbrev bf:List (Nat×Ty):= []
abbrev bU:List (Nat×Ty):= []
abbrev X0:Type:=(List Int)×Unit×Int×Unit
abbrev Y0:Type:=Unit
abbrev U0:Type:=Unit
abbrev V0:Type:=Unit
def g0 {Z:Type} (rq:Bool→Z→Z) (kn:X0→Y0→Z) (ke:Nat→X0→Y0→Z) (kr:U0→V0→Z) (x:X0) (y:Y0):Z:=
lt (ilt 0 x.2.2.1) fun v2385=>
bif v2385 then
lt (IntKind.i64.wrap (x.2.2.1 - 1)) fun v2386=>
lt (x.1.getD v2386.toNat 0) fun (v2387:Int)=>
rq (ile (0:Int) v2386&&ilt v2386 (x.1.length:Int))<|
lt (v2387== 0) fun (v2388:Bool)=>
bif v2388 then
lt (IntKind.i64.wrap (x.2.2.1 - 1)) fun v2389=>
kn (x.1,(),v2389,()) ()
else
ke 0 (x.1,(),x.2.2.1,()) ()
else
ke 0 (x.1,(),x.2.2.1,()) ()
def fu0 (x:X0) (y:Y0):Nat:=(x.2.2.1 - (0:Int)).toNat+1
def l0 (x:X0) (y:Y0):Bool×Nat×X0×Y0×U0×V0:=rounds (fun rq kn ke kr x y=>g0 rq kn ke kr x y) () () (fu0 x y) x y
def g {Z:Type} (rq:Bool→Z→Z) (rt:X→Z) (f:(List Int)):Z:=
lt (f.length:Int) fun (v2380:Int)=>
lt (bK.l0 (f,(),v2380,()) ()) fun w2390=>
rq w2390.1<|
lt (w2390.2.2.1.1.take w2390.2.2.1.2.2.1.toNat) fun (v2391:(List Int))=>
rq (ile (0:Int) w2390.2.2.1.2.2.1&&ile w2390.2.2.1.2.2.1 (w2390.2.2.1.1.length:Int))<|
rt v2391
def r (f:(List Int)):Bool×X:=g chk (fun x=>(true,x)) f
def D:aI:=Dof (P:=Tryz.prog) []
abbrev lf0:=bY (R:=Res) [1] (rounds (fun rq kn ke kr x y=>g0 rq kn ke kr x y) () ()) fu0
def tab:List (Nat×LE Res):= [(3,.typed (eB 21 sh0 bx0 aZ aY bf (lf0)))]
theorem bR:Nonempty (Told E0 D tab Tryz.f14.ntmps (aF (codeOf Tryz.f14) 0) 21 sh0 bx0 aZ aY bf lf0):=eX (sh:=sh0) (bx:=bx0) (ord:=aZ) (shR:=aY) (bxR:=bf) bU (by kernel_rfl) (by kernel_rfl) (by kernel_rfl) [1] _ _ _ @g0 (fun _ _ _ _ _=>by kernel_rfl) (by
  intro _ _ _ _ _ _ _ h i k x y
  simp only [g0]
  with_reducible repeat (first|(apply J.lt; intro _)|apply J.rq|apply J.bif|exact h _ _|exact i _ (by decide) _ _|exact k (by decide) _ _))
theorem bT:fF E0 D tab Tryz.f14.ntmps (codeOf Tryz.f14):=bN (bs:= [aF (codeOf Tryz.f14) 0]) (by kernel_rfl) (aD (bI (by kernel_rfl) (bR)) aL)
abbrev aS:List AS:= [.one (.val (.sl (.int .i64)))]
abbrev bS:List Ty:= []
def ent:Ent Tryz.prog:=bO (D:=D) (tab:=tab) hE0 (ay _) [true] Tryz.func14 (by kernel_rfl) bT aS bS res (fun x y=>r x.1) (fun x y=>g (fun c z=>req c z) (fun x=>some (res x)) x.1) (fun _ _=>by kernel_rfl) (by
 intro x y
 show J _ (g chk (fun x=>(true,x)) x.1) (g (fun c z=>req c z) (fun x=>some (res x)) x.1)
 unfold g
 with_reducible repeat (first|(apply J.lt; intro _)|apply J.rq|apply J.bif|exact J.rt rfl))
end bK
namespace gW
abbrev X:Type:=Int
def res (x:Int):Res:=⟨[.val ⟨.int .i64,x⟩],[],[]⟩
def g {Z:Type} (rq:Bool→Z→Z) (rt:X→Z) (a:Int) (b:Int) (qx:Int):Z:=
lt (IntKind.i64.wrap (a+qx)) fun v2409=>
lt (IntKind.i64.wrap (v2409 - b)) fun v2410=>
lt (v2410.tmod qx) fun (v2411:Int)=>
rq (!ieq qx 0)<|
rt v2411
def r (a:Int) (b:Int) (qx:Int):Bool×X:=g chk (fun x=>(true,x)) a b qx
def D:aI:=Dof (P:=Tryz.prog) []
def tab:List (Nat×LE Res):= []
abbrev aS:List AS:= [.one (.val (.int .i64)),.one (.val (.int .i64)),.one (.val (.int .i64))]
abbrev bS:List Ty:= []
def ent:Ent Tryz.prog:=bO (D:=D) (tab:=tab) hE0 (ay _) [true] Tryz.func36 (by kernel_rfl) aG aS bS res (fun x y=>r x.1 x.2.1 x.2.2.1) (fun x y=>g (fun c z=>req c z) (fun x=>some (res x)) x.1 x.2.1 x.2.2.1) (fun _ _=>by kernel_rfl) (by
 intro x y
 show J _ (g chk (fun x=>(true,x)) x.1 x.2.1 x.2.2.1) (g (fun c z=>req c z) (fun x=>some (res x)) x.1 x.2.1 x.2.2.1)
 unfold g
 with_reducible repeat (first|(apply J.lt; intro _)|apply J.rq|apply J.bif|exact J.rt rfl))
end gW
namespace gX
abbrev X:Type:=Int
def res (x:Int):Res:=⟨[.val ⟨.int .i64,x⟩],[],[]⟩
def brn (w:Bool×X):Brn Res:= .one w.1 (res w.2)
theorem dA (w:Bool×X):(brn w).res=(w.1,res w.2):=rfl
def g {Z:Type} (rq:Bool→Z→Z) (rt:X→Z) (a:(List Int)) (kx:Int):Z:=
lt (cO.r a) fun w2422=>
rq w2422.1<|
lt (List.replicate 256 false) fun (v2423:(List Bool))=>
lt (ile 0 kx) fun v2424=>
bif v2424 then
lt (ilt kx 256) fun v2425=>
bif v2425 then
rq (ile (0:Int) kx&&ilt kx 256)<|
lt (w2422.2.getD kx.toNat false) fun (v2426:Bool)=>
bif v2426 then
rt 1
else
rt 0
else
rt 0
else
rt 0
def r (a:(List Int)) (kx:Int):Bool×X:=g chk (fun x=>(true,x)) a kx
def D:aI:=Dof (P:=Tryz.prog) [cO.ent]
def tab:List (Nat×LE Res):= []
theorem run (a:(List Int)) (kx:Int):iD E0 [true] D (iR E0 D tab 9) Tryz.f95 (codeOf Tryz.f95) [.val ⟨.arr 4 (.int .u64),a⟩,.val ⟨.int .i64,kx⟩] []=g (fun c z=>req c z) (fun x=>some (res x)) a kx:=by kernel_rfl
theorem rel (a:(List Int)) (kx:Int):J (fun w z=>z=some (res w)) (g chk (fun x=>(true,x)) a kx) (g (fun c z=>req c z) (fun x=>some (res x)) a kx):=by
 unfold g
 with_reducible repeat (first|(apply J.lt; intro _)|apply J.rq|apply J.bif|exact J.rt rfl)
theorem ok:oq Tryz.f95=true:=by kernel_rfl
abbrev aS:List AS:= [.one (.val (.arr 4 (.int .u64))),.one (.val (.int .i64))]
abbrev bS:List Ty:= []
def F (x:ASs aS) (y:Bs bS):Brn Res:=brn (r x.1 x.2.1)
theorem good (x:ASs aS) (y:Bs bS) (h:(F x y).res.1=true):Good Tryz.prog 95 (ASs.mk aS x) (Bs.mk bS y) (F x y).res.2:=
 fZ hE0 (ay _) Tryz.func95 ok aG dA (run x.1 x.2.1) (rel x.1 x.2.1) h
def ent:Ent Tryz.prog:=⟨95,shF aS bS F,bX good⟩
def ro:(List Int)→Int→Bool×X:=Classical.choose (⟨r,rfl⟩:∃ q:(List Int)→Int→Bool×X,q=r)
theorem gI:ro=r:=Classical.choose_spec (⟨r,rfl⟩:∃ q:(List Int)→Int→Bool×X,q=r)
def FO (x:ASs aS) (y:Bs bS):Brn Res:=brn (ro x.1 x.2.1)
theorem kR:FO=F:=by unfold FO F; rw [gI]
def oC:Ent Tryz.prog:=⟨95,shF aS bS FO,bX (by rw [kR]; exact good)⟩
end gX
namespace dI
abbrev X:Type:=Int
def res (x:Int):Res:=⟨[.val ⟨.int .i64,x⟩],[],[]⟩
abbrev sh0:List (Nat×Sh):= [(0,.p (.int .i64)),(2,.p (.int .i64)),(4,.pb 500000 (.arr 4 (.int .u64)) []),(6,.p (.int .i64)),(7,.p (.int .i64)),(8,.p (.int .i64))]
abbrev bx0:List (Nat×Ty):= [(500000,.arr 4 (.int .u64))]
abbrev aZ:List (Nat×Ty):= [(500000,.arr 4 (.int .u64))]
abbrev aY:List (Nat×Sh):= []
abbrev bf:List (Nat×Ty):= []
abbrev bU:List (Nat×Ty):= []
abbrev X0:Type:=Int×Int×Unit×Int×Int×Int×Unit
abbrev Y0:Type:=(List Int)×Unit
abbrev U0:Type:=Unit
abbrev V0:Type:=Unit
def g0 {Z:Type} (rq:Bool→Z→Z) (kn:X0→Y0→Z) (ke:Nat→X0→Y0→Z) (kr:U0→V0→Z) (x:X0) (y:Y0):Z:=
lt (ile 0 x.2.2.2.2.2.1) fun v2420=>
bif v2420 then
lt (d9.ro x.2.2.2.2.1 x.2.2.2.2.1 x.2.1) fun w2421=>
rq w2421.1<|
lt (gX.ro y.1 x.2.2.2.2.2.1) fun w2427=>
rq w2427.1<|
lt (w2427.2== 1) fun (v2428:Bool)=>
bif v2428 then
lt (d9.ro w2421.2 x.1 x.2.1) fun w2429=>
rq w2429.1<|
lt (IntKind.i64.wrap (x.2.2.2.2.2.1 - 1)) fun v2430=>
kn (x.1,x.2.1,(),x.2.2.2.1,w2429.2,v2430,()) (y.1,())
else
lt (IntKind.i64.wrap (x.2.2.2.2.2.1 - 1)) fun v2431=>
kn (x.1,x.2.1,(),x.2.2.2.1,w2421.2,v2431,()) (y.1,())
else
ke 0 (x.1,x.2.1,(),x.2.2.2.1,x.2.2.2.2.1,x.2.2.2.2.2.1,()) (y.1,())
def fu0 (x:X0) (y:Y0):Nat:=(x.2.2.2.2.2.1 - (0:Int)+1).toNat+1
def l0 (x:X0) (y:Y0):Bool×Nat×X0×Y0×U0×V0:=rounds (fun rq kn ke kr x y=>g0 rq kn ke kr x y) () () (fu0 x y) x y
def g {Z:Type} (rq:Bool→Z→Z) (rt:X→Z) (a:Int) (e:(List Int)) (m:Int):Z:=
lt ((1:Int).tmod m) fun (v2416:Int)=>
rq (!ieq m 0)<|
lt (bB.r e) fun w2417=>
rq w2417.1<|
lt (IntKind.i64.wrap (w2417.2 - 1)) fun v2418=>
lt (dI.l0 (a,m,(),0,v2416,v2418,()) (e,())) fun w2432=>
rq w2432.1<|
rt w2432.2.2.1.2.2.2.2.1
def r (a:Int) (e:(List Int)) (m:Int):Bool×X:=g chk (fun x=>(true,x)) a e m
def D:aI:=Dof (P:=Tryz.prog) [bB.ent,d9.oC,gX.oC]
abbrev lf0:=bY (R:=Res) [1] (rounds (fun rq kn ke kr x y=>g0 rq kn ke kr x y) () ()) fu0
def tab:List (Nat×LE Res):= [(4,.typed (eB 31 sh0 bx0 aZ aY bf (lf0)))]
theorem bR:Nonempty (Told E0 D tab Tryz.f66.ntmps (aF (codeOf Tryz.f66) 0) 31 sh0 bx0 aZ aY bf lf0):=eX (sh:=sh0) (bx:=bx0) (ord:=aZ) (shR:=aY) (bxR:=bf) bU (by kernel_rfl) (by kernel_rfl) (by kernel_rfl) [1] _ _ _ @g0 (fun _ _ _ _ _=>by kernel_rfl) (by
  intro _ _ _ _ _ _ _ h i k x y
  simp only [g0]
  with_reducible repeat (first|(apply J.lt; intro _)|apply J.rq|apply J.bif|exact h _ _|exact i _ (by decide) _ _|exact k (by decide) _ _))
theorem bT:fF E0 D tab Tryz.f66.ntmps (codeOf Tryz.f66):=bN (bs:= [aF (codeOf Tryz.f66) 0]) (by kernel_rfl) (aD (bI (by kernel_rfl) (bR)) aL)
abbrev aS:List AS:= [.one (.val (.int .i64)),.one (.val (.arr 4 (.int .u64))),.one (.val (.int .i64))]
abbrev bS:List Ty:= []
def ent:Ent Tryz.prog:=bO (D:=D) (tab:=tab) hE0 (ay _) [true] Tryz.func66 (by kernel_rfl) bT aS bS res (fun x y=>r x.1 x.2.1 x.2.2.1) (fun x y=>g (fun c z=>req c z) (fun x=>some (res x)) x.1 x.2.1 x.2.2.1) (fun _ _=>by kernel_rfl) (by
 intro x y
 show J _ (g chk (fun x=>(true,x)) x.1 x.2.1 x.2.2.1) (g (fun c z=>req c z) (fun x=>some (res x)) x.1 x.2.1 x.2.2.1)
 unfold g
 with_reducible repeat (first|(apply J.lt; intro _)|apply J.rq|apply J.bif|exact J.rt rfl))
end dI
namespace gu
abbrev X:Type:=Int
def res (x:Int):Res:=⟨[.val ⟨.int .i64,x⟩],[],[]⟩
def g {Z:Type} (rq:Bool→Z→Z) (rt:X→Z) (a:Int) (qx:Int):Z:=
lt (a== 0) fun (v2413:Bool)=>
bif v2413 then
rt 0
else
lt (IntKind.i64.wrap (qx - 2)) fun v2414=>
lt (aX.r v2414) fun w2415=>
rq w2415.1<|
lt (dI.r a w2415.2 qx) fun w2433=>
rq w2433.1<|
rt w2433.2
def r (a:Int) (qx:Int):Bool×X:=g chk (fun x=>(true,x)) a qx
def D:aI:=Dof (P:=Tryz.prog) [aX.ent,dI.ent]
def tab:List (Nat×LE Res):= []
abbrev aS:List AS:= [.one (.val (.int .i64)),.one (.val (.int .i64))]
abbrev bS:List Ty:= []
def ent:Ent Tryz.prog:=bO (D:=D) (tab:=tab) hE0 (ay _) [true] Tryz.func35 (by kernel_rfl) aG aS bS res (fun x y=>r x.1 x.2.1) (fun x y=>g (fun c z=>req c z) (fun x=>some (res x)) x.1 x.2.1) (fun _ _=>by kernel_rfl) (by
 intro x y
 show J _ (g chk (fun x=>(true,x)) x.1 x.2.1) (g (fun c z=>req c z) (fun x=>some (res x)) x.1 x.2.1)
 unfold g
 with_reducible repeat (first|(apply J.lt; intro _)|apply J.rq|apply J.bif|exact J.rt rfl))
end gu
namespace aO
abbrev X:Type:=(List Int)
def res (x:(List Int)):Res:=⟨[.val ⟨.sl (.int .i64),x⟩],[],[]⟩
abbrev sh1:List (Nat×Sh):= [(0,.p (.sl (.int .i64))),(1,.p (.sl (.int .i64))),(2,.p (.int .i64)),(6,.nil),(7,.va 501000 (.int .i64)),(8,.p (.int .i64)),(9,.p (.int .i64))]
abbrev bx1:List (Nat×Ty):= [(501000,.dyn (.int .i64))]
abbrev kI:List (Nat×Ty):= [(501000,.dyn (.int .i64))]
abbrev kH:List (Nat×Sh):= []
abbrev kN:List (Nat×Ty):= []
abbrev nZ:List (Nat×Ty):= []
abbrev X1:Type:=(List Int)×(List Int)×Int×Unit×Unit×Int×Int×Unit
abbrev Y1:Type:=(Bool×List Int)×Unit
abbrev U1:Type:=Unit
abbrev V1:Type:=Unit
def g1 {Z:Type} (rq:Bool→Z→Z) (kn:X1→Y1→Z) (ke:Nat→X1→Y1→Z) (kr:U1→V1→Z) (x:X1) (y:Y1):Z:=
lt (x.2.1.length:Int) fun (v2453:Int)=>
lt (ilt x.2.2.2.2.2.2.1 v2453) fun v2454=>
bif v2454 then
lt (IntKind.i64.wrap (x.2.2.2.2.2.1+x.2.2.2.2.2.2.1)) fun v2455=>
lt (IntKind.i64.wrap (x.2.2.2.2.2.1+x.2.2.2.2.2.2.1)) fun v2456=>
rq (ile (0:Int) v2456&&ilt v2456 (y.1.2.length:Int))<|
lt (y.1.2.getD v2456.toNat 0) fun (v2457:Int)=>
lt (x.1.getD x.2.2.2.2.2.1.toNat 0) fun (v2458:Int)=>
rq (ile (0:Int) x.2.2.2.2.2.1&&ilt x.2.2.2.2.2.1 (x.1.length:Int))<|
lt (x.2.1.getD x.2.2.2.2.2.2.1.toNat 0) fun (v2459:Int)=>
rq (ile (0:Int) x.2.2.2.2.2.2.1&&ilt x.2.2.2.2.2.2.1 (x.2.1.length:Int))<|
lt (bG.ro v2458 v2459 x.2.2.1) fun w2460=>
rq w2460.1<|
lt (dU.r v2457 w2460.2 x.2.2.1) fun w2461=>
rq w2461.1<|
rq (ile (0:Int) v2455&&ilt v2455 (y.1.2.length:Int))<|
lt (y.1.2.set v2455.toNat w2461.2) fun (v2462:(List Int))=>
lt (IntKind.i64.wrap (x.2.2.2.2.2.2.1+1)) fun v2463=>
kn (x.1,x.2.1,x.2.2.1,(),(),x.2.2.2.2.2.1,v2463,()) ((y.1.1,v2462),())
else
ke 2 (x.1,x.2.1,x.2.2.1,(),(),x.2.2.2.2.2.1,x.2.2.2.2.2.2.1,()) (y.1,())
def fu1 (x:X1) (y:Y1):Nat:=((x.2.1.length:Int) - x.2.2.2.2.2.2.1).toNat+1
def l1 (x:X1) (y:Y1):Bool×Nat×X1×Y1×U1×V1:=rounds (fun rq kn ke kr x y=>g1 rq kn ke kr x y) () () (fu1 x y) x y
abbrev sh0:List (Nat×Sh):= [(0,.p (.sl (.int .i64))),(1,.p (.sl (.int .i64))),(2,.p (.int .i64)),(6,.nil),(7,.va 500000 (.int .i64)),(8,.p (.int .i64))]
abbrev bx0:List (Nat×Ty):= [(500000,.dyn (.int .i64))]
abbrev aZ:List (Nat×Ty):= [(500000,.dyn (.int .i64))]
abbrev aY:List (Nat×Sh):= []
abbrev bf:List (Nat×Ty):= []
abbrev bU:List (Nat×Ty):= []
abbrev X0:Type:=(List Int)×(List Int)×Int×Unit×Unit×Int×Unit
abbrev Y0:Type:=(Bool×List Int)×Unit
abbrev U0:Type:=Unit
abbrev V0:Type:=Unit
def g0 {Z:Type} (rq:Bool→Z→Z) (kn:X0→Y0→Z) (ke:Nat→X0→Y0→Z) (kr:U0→V0→Z) (x:X0) (y:Y0):Z:=
lt (x.1.length:Int) fun (v2449:Int)=>
lt (ilt x.2.2.2.2.2.1 v2449) fun v2450=>
bif v2450 then
lt (aO.l1 (x.1,x.2.1,x.2.2.1,(),(),x.2.2.2.2.2.1,0,()) (y.1,())) fun w2464=>
rq w2464.1<|
lt (IntKind.i64.wrap (w2464.2.2.1.2.2.2.2.2.1+1)) fun v2465=>
kn (w2464.2.2.1.1,w2464.2.2.1.2.1,w2464.2.2.1.2.2.1,(),(),v2465,()) (w2464.2.2.2.1.1,())
else
ke 0 (x.1,x.2.1,x.2.2.1,(),(),x.2.2.2.2.2.1,()) (y.1,())
def fu0 (x:X0) (y:Y0):Nat:=((x.1.length:Int) - x.2.2.2.2.2.1).toNat+1
def l0 (x:X0) (y:Y0):Bool×Nat×X0×Y0×U0×V0:=rounds (fun rq kn ke kr x y=>g0 rq kn ke kr x y) () () (fu0 x y) x y
def g {Z:Type} (rq:Bool→Z→Z) (rt:X→Z) (a:(List Int)) (b:(List Int)) (qx:Int):Z:=
lt (a.length:Int) fun (v2438:Int)=>
lt (v2438== 0) fun (v2439:Bool)=>
bif v2439 then
rt []
else
lt (b.length:Int) fun (v2440:Int)=>
lt (v2440== 0) fun (v2441:Bool)=>
bif v2441 then
rt []
else
lt (a.length:Int) fun (v2442:Int)=>
lt (b.length:Int) fun (v2443:Int)=>
lt (IntKind.i64.wrap (v2442+v2443)) fun v2444=>
lt (IntKind.i64.wrap (v2444 - 1)) fun v2445=>
lt (List.replicate v2445.toNat 0) fun (v2446:(List Int))=>
rq ((ile (0:Int) v2445&&ile v2445 v2445)&&ile (v2445*((8:Nat):Int)) 70368744177664)<|
lt (aO.l0 (a,b,qx,(),(),0,()) ((false,v2446),())) fun w2466=>
rq w2466.1<|
lt (bK.r w2466.2.2.2.1.1.2) fun w2467=>
rq w2467.1<|
rt w2467.2
def r (a:(List Int)) (b:(List Int)) (qx:Int):Bool×X:=g chk (fun x=>(true,x)) a b qx
def D:aI:=Dof (P:=Tryz.prog) [bG.oC,dU.ent,bK.ent]
abbrev lf1:=bY (R:=Res) [3] (rounds (fun rq kn ke kr x y=>g1 rq kn ke kr x y) () ()) fu1
abbrev lf0:=bY (R:=Res) [1] (rounds (fun rq kn ke kr x y=>g0 rq kn ke kr x y) () ()) fu0
def tab:List (Nat×LE Res):= [(9,.typed (eB 62 sh1 bx1 kI kH kN (lf1))),(6,.typed (eB 62 sh0 bx0 aZ aY bf (lf0)))]
theorem nW:Nonempty (Told E0 D tab Tryz.f37.ntmps (aF (codeOf Tryz.f37) 1) 62 sh1 bx1 kI kH kN lf1):=eX (sh:=sh1) (bx:=bx1) (ord:=kI) (shR:=kH) (bxR:=kN) nZ (by kernel_rfl) (by kernel_rfl) (by kernel_rfl) [3] _ _ _ @g1 (fun _ _ _ _ _=>by kernel_rfl) (by
  intro _ _ _ _ _ _ _ h i k x y
  simp only [g1]
  with_reducible repeat (first|(apply J.lt; intro _)|apply J.rq|apply J.bif|exact h _ _|exact i _ (by decide) _ _|exact k (by decide) _ _))
theorem bR:Nonempty (Told E0 D tab Tryz.f37.ntmps (aF (codeOf Tryz.f37) 0) 62 sh0 bx0 aZ aY bf lf0):=eX (sh:=sh0) (bx:=bx0) (ord:=aZ) (shR:=aY) (bxR:=bf) bU (by kernel_rfl) (by kernel_rfl) (by kernel_rfl) [1] _ _ _ @g0 (fun _ _ _ _ _=>by kernel_rfl) (by
  intro _ _ _ _ _ _ _ h i k x y
  simp only [g0]
  with_reducible repeat (first|(apply J.lt; intro _)|apply J.rq|apply J.bif|exact h _ _|exact i _ (by decide) _ _|exact k (by decide) _ _))
theorem bT:fF E0 D tab Tryz.f37.ntmps (codeOf Tryz.f37):=bN (bs:= [aF (codeOf Tryz.f37) 0,aF (codeOf Tryz.f37) 1]) (by kernel_rfl) (aD (bI (by kernel_rfl) (bR)) (aD (bI (by kernel_rfl) (nW)) aL))
abbrev aS:List AS:= [.one (.val (.sl (.int .i64))),.one (.val (.sl (.int .i64))),.one (.val (.int .i64))]
abbrev bS:List Ty:= []
def ent:Ent Tryz.prog:=bO (D:=D) (tab:=tab) hE0 (ay _) [true] Tryz.func37 (by kernel_rfl) bT aS bS res (fun x y=>r x.1 x.2.1 x.2.2.1) (fun x y=>g (fun c z=>req c z) (fun x=>some (res x)) x.1 x.2.1 x.2.2.1) (fun _ _=>by kernel_rfl) (by
 intro x y
 show J _ (g chk (fun x=>(true,x)) x.1 x.2.1 x.2.2.1) (g (fun c z=>req c z) (fun x=>some (res x)) x.1 x.2.1 x.2.2.1)
 unfold g
 with_reducible repeat (first|(apply J.lt; intro _)|apply J.rq|apply J.bif|exact J.rt rfl))
end aO
namespace fT
abbrev X:Type:=Int
def res (x:Int):Res:=⟨[.val ⟨.int .i64,x⟩],[],[]⟩
def g {Z:Type} (rq:Bool→Z→Z) (rt:X→Z) (f:(List Int)) (kx:Int):Z:=
lt (f.length:Int) fun (v2497:Int)=>
lt (ilt kx v2497) fun v2498=>
bif v2498 then
lt (f.getD kx.toNat 0) fun (v2499:Int)=>
rq (ile (0:Int) kx&&ilt kx (f.length:Int))<|
rt v2499
else
rt 0
def r (f:(List Int)) (kx:Int):Bool×X:=g chk (fun x=>(true,x)) f kx
def D:aI:=Dof (P:=Tryz.prog) []
def tab:List (Nat×LE Res):= []
abbrev aS:List AS:= [.one (.val (.sl (.int .i64))),.one (.val (.int .i64))]
abbrev bS:List Ty:= []
def ent:Ent Tryz.prog:=bO (D:=D) (tab:=tab) hE0 (ay _) [true] Tryz.func67 (by kernel_rfl) aG aS bS res (fun x y=>r x.1 x.2.1) (fun x y=>g (fun c z=>req c z) (fun x=>some (res x)) x.1 x.2.1) (fun _ _=>by kernel_rfl) (by
 intro x y
 show J _ (g chk (fun x=>(true,x)) x.1 x.2.1) (g (fun c z=>req c z) (fun x=>some (res x)) x.1 x.2.1)
 unfold g
 with_reducible repeat (first|(apply J.lt; intro _)|apply J.rq|apply J.bif|exact J.rt rfl))
end fT
namespace dS
abbrev X:Type:=(List Int)
def res (x:(List Int)):Res:=⟨[.val ⟨.sl (.int .i64),x⟩],[],[]⟩
abbrev sh0:List (Nat×Sh):= [(0,.p (.sl (.int .i64))),(1,.p (.sl (.int .i64))),(2,.p (.int .i64)),(6,.nil),(7,.va 500000 (.int .i64)),(8,.p (.int .i64))]
abbrev bx0:List (Nat×Ty):= [(500000,.dyn (.int .i64))]
abbrev aZ:List (Nat×Ty):= [(500000,.dyn (.int .i64))]
abbrev aY:List (Nat×Sh):= []
abbrev bf:List (Nat×Ty):= []
abbrev bU:List (Nat×Ty):= []
abbrev X0:Type:=(List Int)×(List Int)×Int×Unit×Unit×Int×Unit
abbrev Y0:Type:=(Bool×List Int)×Unit
abbrev U0:Type:=Unit
abbrev V0:Type:=Unit
def g0 {Z:Type} (rq:Bool→Z→Z) (kn:X0→Y0→Z) (ke:Nat→X0→Y0→Z) (kr:U0→V0→Z) (x:X0) (y:Y0):Z:=
lt (x.1.length:Int) fun (v2504:Int)=>
lt (x.2.1.length:Int) fun (v2505:Int)=>
lt (bif ilt v2504 v2505 then v2505 else v2504) fun (v2506:Int)=>
lt (ilt x.2.2.2.2.2.1 v2506) fun v2507=>
bif v2507 then
lt (fT.r x.1 x.2.2.2.2.2.1) fun w2508=>
rq w2508.1<|
lt (fT.r x.2.1 x.2.2.2.2.2.1) fun w2509=>
rq w2509.1<|
lt (dU.r w2508.2 w2509.2 x.2.2.1) fun w2510=>
rq w2510.1<|
lt (y.1.1&&false) fun (v2511:Bool)=>
lt (y.1.2++ [w2510.2]) fun (v2512:(List Int))=>
rq (nle ((2*(y.1.2.length+1)+512)*8) 70368744177664)<|
lt (IntKind.i64.wrap (x.2.2.2.2.2.1+1)) fun v2513=>
kn (x.1,x.2.1,x.2.2.1,(),(),v2513,()) ((v2511,v2512),())
else
ke 0 (x.1,x.2.1,x.2.2.1,(),(),x.2.2.2.2.2.1,()) (y.1,())
def fu0 (x:X0) (y:Y0):Nat:=((bif ilt (x.1.length:Int) (x.2.1.length:Int) then (x.2.1.length:Int) else (x.1.length:Int)) - x.2.2.2.2.2.1).toNat+1
def l0 (x:X0) (y:Y0):Bool×Nat×X0×Y0×U0×V0:=rounds (fun rq kn ke kr x y=>g0 rq kn ke kr x y) () () (fu0 x y) x y
def g {Z:Type} (rq:Bool→Z→Z) (rt:X→Z) (a:(List Int)) (b:(List Int)) (qx:Int):Z:=
lt (dS.l0 (a,b,qx,(),(),0,()) ((true,[]),())) fun w2514=>
rq w2514.1<|
lt (bK.r w2514.2.2.2.1.1.2) fun w2515=>
rq w2515.1<|
rt w2515.2
def r (a:(List Int)) (b:(List Int)) (qx:Int):Bool×X:=g chk (fun x=>(true,x)) a b qx
def D:aI:=Dof (P:=Tryz.prog) [fT.ent,dU.ent,bK.ent]
abbrev lf0:=bY (R:=Res) [1] (rounds (fun rq kn ke kr x y=>g0 rq kn ke kr x y) () ()) fu0
def tab:List (Nat×LE Res):= [(4,.typed (eB 31 sh0 bx0 aZ aY bf (lf0)))]
theorem bR:Nonempty (Told E0 D tab Tryz.f38.ntmps (aF (codeOf Tryz.f38) 0) 31 sh0 bx0 aZ aY bf lf0):=eX (sh:=sh0) (bx:=bx0) (ord:=aZ) (shR:=aY) (bxR:=bf) bU (by kernel_rfl) (by kernel_rfl) (by kernel_rfl) [1] _ _ _ @g0 (fun _ _ _ _ _=>by kernel_rfl) (by
  intro _ _ _ _ _ _ _ h i k x y
  simp only [g0]
  with_reducible repeat (first|(apply J.lt; intro _)|apply J.rq|apply J.bif|exact h _ _|exact i _ (by decide) _ _|exact k (by decide) _ _))
theorem bT:fF E0 D tab Tryz.f38.ntmps (codeOf Tryz.f38):=bN (bs:= [aF (codeOf Tryz.f38) 0]) (by kernel_rfl) (aD (bI (by kernel_rfl) (bR)) aL)
abbrev aS:List AS:= [.one (.val (.sl (.int .i64))),.one (.val (.sl (.int .i64))),.one (.val (.int .i64))]
abbrev bS:List Ty:= []
def ent:Ent Tryz.prog:=bO (D:=D) (tab:=tab) hE0 (ay _) [true] Tryz.func38 (by kernel_rfl) bT aS bS res (fun x y=>r x.1 x.2.1 x.2.2.1) (fun x y=>g (fun c z=>req c z) (fun x=>some (res x)) x.1 x.2.1 x.2.2.1) (fun _ _=>by kernel_rfl) (by
 intro x y
 show J _ (g chk (fun x=>(true,x)) x.1 x.2.1 x.2.2.1) (g (fun c z=>req c z) (fun x=>some (res x)) x.1 x.2.1 x.2.2.1)
 unfold g
 with_reducible repeat (first|(apply J.lt; intro _)|apply J.rq|apply J.bif|exact J.rt rfl))
end dS
namespace aQ
abbrev X:Type:=(List Int)
def res (x:(List Int)):Res:=⟨[.val ⟨.sl (.int .i64),x⟩],[],[]⟩
abbrev sh1:List (Nat×Sh):= [(0,.p (.sl (.int .i64))),(1,.p (.sl (.int .i64))),(2,.p (.int .i64)),(6,.nil),(7,.p (.sl (.int .i64))),(8,.p (.int .i64)),(9,.p (.sl (.int .i64))),(10,.p (.int .i64))]
abbrev bx1:List (Nat×Ty):= []
abbrev kI:List (Nat×Ty):= []
abbrev kH:List (Nat×Sh):= []
abbrev kN:List (Nat×Ty):= []
abbrev nZ:List (Nat×Ty):= []
abbrev X1:Type:=(List Int)×(List Int)×Int×Unit×(List Int)×Int×(List Int)×Int×Unit
abbrev Y1:Type:=Unit
abbrev U1:Type:=Unit
abbrev V1:Type:=Unit
def g1 {Z:Type} (rq:Bool→Z→Z) (kn:X1→Y1→Z) (ke:Nat→X1→Y1→Z) (kr:U1→V1→Z) (x:X1) (y:Y1):Z:=
lt (x.1.length:Int) fun (v2528:Int)=>
lt (ilt x.2.2.2.2.2.2.2.1 v2528) fun v2529=>
bif v2529 then
lt (x.2.2.2.2.2.2.2.1 != x.2.2.2.2.2.1) fun (v2530:Bool)=>
bif v2530 then
lt (x.1.getD x.2.2.2.2.2.1.toNat 0) fun (v2531:Int)=>
rq (ile (0:Int) x.2.2.2.2.2.1&&ilt x.2.2.2.2.2.1 (x.1.length:Int))<|
lt (x.1.getD x.2.2.2.2.2.2.2.1.toNat 0) fun (v2532:Int)=>
rq (ile (0:Int) x.2.2.2.2.2.2.2.1&&ilt x.2.2.2.2.2.2.2.1 (x.1.length:Int))<|
lt (gW.r v2531 v2532 x.2.2.1) fun w2533=>
rq w2533.1<|
lt (gu.r w2533.2 x.2.2.1) fun w2534=>
rq w2534.1<|
lt (x.1.getD x.2.2.2.2.2.2.2.1.toNat 0) fun (v2535:Int)=>
rq (ile (0:Int) x.2.2.2.2.2.2.2.1&&ilt x.2.2.2.2.2.2.2.1 (x.1.length:Int))<|
lt (gW.r 0 v2535 x.2.2.1) fun w2536=>
rq w2536.1<|
lt (bG.ro w2536.2 w2534.2 x.2.2.1) fun w2537=>
rq w2537.1<|
lt (aO.r x.2.2.2.2.2.2.1 [w2537.2,w2534.2] x.2.2.1) fun w2538=>
rq w2538.1<|
lt (IntKind.i64.wrap (x.2.2.2.2.2.2.2.1+1)) fun v2539=>
kn (x.1,x.2.1,x.2.2.1,(),x.2.2.2.2.1,x.2.2.2.2.2.1,w2538.2,v2539,()) ()
else
lt (IntKind.i64.wrap (x.2.2.2.2.2.2.2.1+1)) fun v2540=>
kn (x.1,x.2.1,x.2.2.1,(),x.2.2.2.2.1,x.2.2.2.2.2.1,x.2.2.2.2.2.2.1,v2540,()) ()
else
ke 2 (x.1,x.2.1,x.2.2.1,(),x.2.2.2.2.1,x.2.2.2.2.2.1,x.2.2.2.2.2.2.1,x.2.2.2.2.2.2.2.1,()) ()
def fu1 (x:X1) (y:Y1):Nat:=((x.1.length:Int) - x.2.2.2.2.2.2.2.1).toNat+1
def l1 (x:X1) (y:Y1):Bool×Nat×X1×Y1×U1×V1:=rounds (fun rq kn ke kr x y=>g1 rq kn ke kr x y) () () (fu1 x y) x y
abbrev sh0:List (Nat×Sh):= [(0,.p (.sl (.int .i64))),(1,.p (.sl (.int .i64))),(2,.p (.int .i64)),(6,.nil),(7,.p (.sl (.int .i64))),(8,.p (.int .i64))]
abbrev bx0:List (Nat×Ty):= []
abbrev aZ:List (Nat×Ty):= []
abbrev aY:List (Nat×Sh):= []
abbrev bf:List (Nat×Ty):= []
abbrev bU:List (Nat×Ty):= []
abbrev X0:Type:=(List Int)×(List Int)×Int×Unit×(List Int)×Int×Unit
abbrev Y0:Type:=Unit
abbrev U0:Type:=Unit
abbrev V0:Type:=Unit
def g0 {Z:Type} (rq:Bool→Z→Z) (kn:X0→Y0→Z) (ke:Nat→X0→Y0→Z) (kr:U0→V0→Z) (x:X0) (y:Y0):Z:=
lt (x.1.length:Int) fun (v2523:Int)=>
lt (ilt x.2.2.2.2.2.1 v2523) fun v2524=>
bif v2524 then
lt (x.2.1.length:Int) fun (v2525:Int)=>
lt (ilt x.2.2.2.2.2.1 v2525) fun v2526=>
bif v2526 then
lt (x.2.1.getD x.2.2.2.2.2.1.toNat 0) fun (v2527:Int)=>
rq (ile (0:Int) x.2.2.2.2.2.1&&ilt x.2.2.2.2.2.1 (x.2.1.length:Int))<|
lt (aQ.l1 (x.1,x.2.1,x.2.2.1,(),x.2.2.2.2.1,x.2.2.2.2.2.1,[v2527],0,()) ()) fun w2541=>
rq w2541.1<|
lt (dS.r w2541.2.2.1.2.2.2.2.1 w2541.2.2.1.2.2.2.2.2.2.1 w2541.2.2.1.2.2.1) fun w2542=>
rq w2542.1<|
lt (IntKind.i64.wrap (w2541.2.2.1.2.2.2.2.2.1+1)) fun v2543=>
kn (w2541.2.2.1.1,w2541.2.2.1.2.1,w2541.2.2.1.2.2.1,(),w2542.2,v2543,()) ()
else
ke 0 (x.1,x.2.1,x.2.2.1,(),x.2.2.2.2.1,x.2.2.2.2.2.1,()) ()
else
ke 0 (x.1,x.2.1,x.2.2.1,(),x.2.2.2.2.1,x.2.2.2.2.2.1,()) ()
def fu0 (x:X0) (y:Y0):Nat:=((x.1.length:Int) - x.2.2.2.2.2.1).toNat+1
def l0 (x:X0) (y:Y0):Bool×Nat×X0×Y0×U0×V0:=rounds (fun rq kn ke kr x y=>g0 rq kn ke kr x y) () () (fu0 x y) x y
def g {Z:Type} (rq:Bool→Z→Z) (rt:X→Z) (xs:(List Int)) (ys:(List Int)) (qx:Int):Z:=
lt (aQ.l0 (xs,ys,qx,(),[],0,()) ()) fun w2544=>
rq w2544.1<|
rt w2544.2.2.1.2.2.2.2.1
def r (xs:(List Int)) (ys:(List Int)) (qx:Int):Bool×X:=g chk (fun x=>(true,x)) xs ys qx
def D:aI:=Dof (P:=Tryz.prog) [gW.ent,gu.ent,bG.oC,aO.ent,dS.ent]
abbrev lf1:=bY (R:=Res) [3] (rounds (fun rq kn ke kr x y=>g1 rq kn ke kr x y) () ()) fu1
abbrev lf0:=bY (R:=Res) [1] (rounds (fun rq kn ke kr x y=>g0 rq kn ke kr x y) () ()) fu0
def tab:List (Nat×LE Res):= [(8,.typed (eB 69 sh1 bx1 kI kH kN (lf1))),(4,.typed (eB 69 sh0 bx0 aZ aY bf (lf0)))]
theorem nW:Nonempty (Told E0 D tab Tryz.f15.ntmps (aF (codeOf Tryz.f15) 1) 69 sh1 bx1 kI kH kN lf1):=eX (sh:=sh1) (bx:=bx1) (ord:=kI) (shR:=kH) (bxR:=kN) nZ (by kernel_rfl) (by kernel_rfl) (by kernel_rfl) [3] _ _ _ @g1 (fun _ _ _ _ _=>by kernel_rfl) (by
  intro _ _ _ _ _ _ _ h i k x y
  simp only [g1]
  with_reducible repeat (first|(apply J.lt; intro _)|apply J.rq|apply J.bif|exact h _ _|exact i _ (by decide) _ _|exact k (by decide) _ _))
theorem bR:Nonempty (Told E0 D tab Tryz.f15.ntmps (aF (codeOf Tryz.f15) 0) 69 sh0 bx0 aZ aY bf lf0):=eX (sh:=sh0) (bx:=bx0) (ord:=aZ) (shR:=aY) (bxR:=bf) bU (by kernel_rfl) (by kernel_rfl) (by kernel_rfl) [1] _ _ _ @g0 (fun _ _ _ _ _=>by kernel_rfl) (by
  intro _ _ _ _ _ _ _ h i k x y
  simp only [g0]
  with_reducible repeat (first|(apply J.lt; intro _)|apply J.rq|apply J.bif|exact h _ _|exact i _ (by decide) _ _|exact k (by decide) _ _))
theorem bT:fF E0 D tab Tryz.f15.ntmps (codeOf Tryz.f15):=bN (bs:= [aF (codeOf Tryz.f15) 0,aF (codeOf Tryz.f15) 1]) (by kernel_rfl) (aD (bI (by kernel_rfl) (bR)) (aD (bI (by kernel_rfl) (nW)) aL))
abbrev aS:List AS:= [.one (.val (.sl (.int .i64))),.one (.val (.sl (.int .i64))),.one (.val (.int .i64))]
abbrev bS:List Ty:= []
def ent:Ent Tryz.prog:=bO (D:=D) (tab:=tab) hE0 (ay _) [true] Tryz.func15 (by kernel_rfl) bT aS bS res (fun x y=>r x.1 x.2.1 x.2.2.1) (fun x y=>g (fun c z=>req c z) (fun x=>some (res x)) x.1 x.2.1 x.2.2.1) (fun _ _=>by kernel_rfl) (by
 intro x y
 show J _ (g chk (fun x=>(true,x)) x.1 x.2.1 x.2.2.1) (g (fun c z=>req c z) (fun x=>some (res x)) x.1 x.2.1 x.2.2.1)
 unfold g
 with_reducible repeat (first|(apply J.lt; intro _)|apply J.rq|apply J.bif|exact J.rt rfl))
end aQ
namespace dB
abbrev X:Type:=Bool
def res (x:Bool):Res:=⟨[.val ⟨.bool,x⟩],[],[]⟩
abbrev sh0:List (Nat×Sh):= [(0,.p (.sl (.int .i64))),(1,.p (.sl (.int .i64))),(4,.p .bool),(5,.p (.int .i64))]
abbrev bx0:List (Nat×Ty):= []
abbrev aZ:List (Nat×Ty):= []
abbrev aY:List (Nat×Sh):= [(4,.p .bool)]
abbrev bf:List (Nat×Ty):= []
abbrev bU:List (Nat×Ty):= []
abbrev X0:Type:=(List Int)×(List Int)×Bool×Int×Unit
abbrev Y0:Type:=Unit
abbrev U0:Type:=Bool×Unit
abbrev V0:Type:=Unit
def g0 {Z:Type} (rq:Bool→Z→Z) (kn:X0→Y0→Z) (ke:Nat→X0→Y0→Z) (kr:U0→V0→Z) (x:X0) (y:Y0):Z:=
lt (x.1.length:Int) fun (v2551:Int)=>
lt (ilt x.2.2.2.1 v2551) fun v2552=>
bif v2552 then
lt (x.1.getD x.2.2.2.1.toNat 0) fun (v2553:Int)=>
rq (ile (0:Int) x.2.2.2.1&&ilt x.2.2.2.1 (x.1.length:Int))<|
lt (x.2.1.getD x.2.2.2.1.toNat 0) fun (v2554:Int)=>
rq (ile (0:Int) x.2.2.2.1&&ilt x.2.2.2.1 (x.2.1.length:Int))<|
lt (v2553 != v2554) fun (v2555:Bool)=>
bif v2555 then
kr (false,()) ()
else
lt (IntKind.i64.wrap (x.2.2.2.1+1)) fun v2556=>
kn (x.1,x.2.1,x.2.2.1,v2556,()) ()
else
ke 0 (x.1,x.2.1,x.2.2.1,x.2.2.2.1,()) ()
def fu0 (x:X0) (y:Y0):Nat:=((x.1.length:Int) - x.2.2.2.1).toNat+1
def l0 (x:X0) (y:Y0):Bool×Nat×X0×Y0×U0×V0:=rounds (fun rq kn ke kr x y=>g0 rq kn ke kr x y) (false,()) () (fu0 x y) x y
def g {Z:Type} (rq:Bool→Z→Z) (rt:X→Z) (a:(List Int)) (b:(List Int)):Z:=
lt (a.length:Int) fun (v2546:Int)=>
lt (b.length:Int) fun (v2547:Int)=>
lt (v2546 != v2547) fun (v2548:Bool)=>
bif v2548 then
rt false
else
lt (dB.l0 (a,b,false,0,()) ()) fun w2557=>
rq w2557.1<|
bif Nat.beq w2557.2.1 0 then
rt w2557.2.2.2.2.1.1
else
rt true
def r (a:(List Int)) (b:(List Int)):Bool×X:=g chk (fun x=>(true,x)) a b
def D:aI:=Dof (P:=Tryz.prog) []
abbrev lf0:=bY (R:=Res) [0,1] (rounds (fun rq kn ke kr x y=>g0 rq kn ke kr x y) (false,()) ()) fu0
def tab:List (Nat×LE Res):= [(5,.typed (eB 26 sh0 bx0 aZ aY bf (lf0)))]
theorem bR:Nonempty (Told E0 D tab Tryz.f13.ntmps (aF (codeOf Tryz.f13) 0) 26 sh0 bx0 aZ aY bf lf0):=eX (sh:=sh0) (bx:=bx0) (ord:=aZ) (shR:=aY) (bxR:=bf) bU (by kernel_rfl) (by kernel_rfl) (by kernel_rfl) [0,1] _ _ _ @g0 (fun _ _ _ _ _=>by kernel_rfl) (by
  intro _ _ _ _ _ _ _ h i k x y
  simp only [g0]
  with_reducible repeat (first|(apply J.lt; intro _)|apply J.rq|apply J.bif|exact h _ _|exact i _ (by decide) _ _|exact k (by decide) _ _))
theorem bT:fF E0 D tab Tryz.f13.ntmps (codeOf Tryz.f13):=bN (bs:= [aF (codeOf Tryz.f13) 0]) (by kernel_rfl) (aD (bI (by kernel_rfl) (bR)) aL)
abbrev aS:List AS:= [.one (.val (.sl (.int .i64))),.one (.val (.sl (.int .i64)))]
abbrev bS:List Ty:= []
def ent:Ent Tryz.prog:=bO (D:=D) (tab:=tab) hE0 (ay _) [true] Tryz.func13 (by kernel_rfl) bT aS bS res (fun x y=>r x.1 x.2.1) (fun x y=>g (fun c z=>req c z) (fun x=>some (res x)) x.1 x.2.1) (fun _ _=>by kernel_rfl) (by
 intro x y
 show J _ (g chk (fun x=>(true,x)) x.1 x.2.1) (g (fun c z=>req c z) (fun x=>some (res x)) x.1 x.2.1)
 unfold g
 with_reducible repeat (first|(apply J.lt; intro _)|apply J.rq|apply J.bif|exact J.rt rfl))
end dB
namespace dD
abbrev X:Type:=Int
def res (x:Int):Res:=⟨[.val ⟨.int .i64,x⟩],[],[]⟩
abbrev sh0:List (Nat×Sh):= [(0,.p (.sl (.int .i64))),(1,.p (.int .i64)),(2,.p (.int .i64)),(6,.p (.int .i64)),(7,.p (.int .i64)),(8,.p (.int .i64)),(9,.p (.int .i64))]
abbrev bx0:List (Nat×Ty):= []
abbrev aZ:List (Nat×Ty):= []
abbrev aY:List (Nat×Sh):= []
abbrev bf:List (Nat×Ty):= []
abbrev bU:List (Nat×Ty):= []
abbrev X0:Type:=(List Int)×Int×Int×Int×Int×Int×Int×Unit
abbrev Y0:Type:=Unit
abbrev U0:Type:=Unit
abbrev V0:Type:=Unit
def g0 {Z:Type} (rq:Bool→Z→Z) (kn:X0→Y0→Z) (ke:Nat→X0→Y0→Z) (kr:U0→V0→Z) (x:X0) (y:Y0):Z:=
lt (x.1.length:Int) fun (v2561:Int)=>
lt (ilt x.2.2.2.2.2.2.1 v2561) fun v2562=>
bif v2562 then
lt (x.1.getD x.2.2.2.2.2.2.1.toNat 0) fun (v2563:Int)=>
rq (ile (0:Int) x.2.2.2.2.2.2.1&&ilt x.2.2.2.2.2.2.1 (x.1.length:Int))<|
lt (bG.ro v2563 x.2.2.2.2.2.1 x.2.2.1) fun w2564=>
rq w2564.1<|
lt (dU.r x.2.2.2.2.1 w2564.2 x.2.2.1) fun w2565=>
rq w2565.1<|
lt (bG.ro x.2.2.2.2.2.1 x.2.1 x.2.2.1) fun w2566=>
rq w2566.1<|
lt (IntKind.i64.wrap (x.2.2.2.2.2.2.1+1)) fun v2567=>
kn (x.1,x.2.1,x.2.2.1,x.2.2.2.1,w2565.2,w2566.2,v2567,()) ()
else
ke 0 (x.1,x.2.1,x.2.2.1,x.2.2.2.1,x.2.2.2.2.1,x.2.2.2.2.2.1,x.2.2.2.2.2.2.1,()) ()
def fu0 (x:X0) (y:Y0):Nat:=((x.1.length:Int) - x.2.2.2.2.2.2.1).toNat+1
def l0 (x:X0) (y:Y0):Bool×Nat×X0×Y0×U0×V0:=rounds (fun rq kn ke kr x y=>g0 rq kn ke kr x y) () () (fu0 x y) x y
def g {Z:Type} (rq:Bool→Z→Z) (rt:X→Z) (f:(List Int)) (xx:Int) (qx:Int):Z:=
lt (dD.l0 (f,xx,qx,0,0,1,0,()) ()) fun w2568=>
rq w2568.1<|
rt w2568.2.2.1.2.2.2.2.1
def r (f:(List Int)) (xx:Int) (qx:Int):Bool×X:=g chk (fun x=>(true,x)) f xx qx
def D:aI:=Dof (P:=Tryz.prog) [bG.oC,dU.ent]
abbrev lf0:=bY (R:=Res) [1] (rounds (fun rq kn ke kr x y=>g0 rq kn ke kr x y) () ()) fu0
def tab:List (Nat×LE Res):= [(4,.typed (eB 31 sh0 bx0 aZ aY bf (lf0)))]
theorem bR:Nonempty (Told E0 D tab Tryz.f16.ntmps (aF (codeOf Tryz.f16) 0) 31 sh0 bx0 aZ aY bf lf0):=eX (sh:=sh0) (bx:=bx0) (ord:=aZ) (shR:=aY) (bxR:=bf) bU (by kernel_rfl) (by kernel_rfl) (by kernel_rfl) [1] _ _ _ @g0 (fun _ _ _ _ _=>by kernel_rfl) (by
  intro _ _ _ _ _ _ _ h i k x y
  simp only [g0]
  with_reducible repeat (first|(apply J.lt; intro _)|apply J.rq|apply J.bif|exact h _ _|exact i _ (by decide) _ _|exact k (by decide) _ _))
theorem bT:fF E0 D tab Tryz.f16.ntmps (codeOf Tryz.f16):=bN (bs:= [aF (codeOf Tryz.f16) 0]) (by kernel_rfl) (aD (bI (by kernel_rfl) (bR)) aL)
abbrev aS:List AS:= [.one (.val (.sl (.int .i64))),.one (.val (.int .i64)),.one (.val (.int .i64))]
abbrev bS:List Ty:= []
def ent:Ent Tryz.prog:=bO (D:=D) (tab:=tab) hE0 (ay _) [true] Tryz.func16 (by kernel_rfl) bT aS bS res (fun x y=>r x.1 x.2.1 x.2.2.1) (fun x y=>g (fun c z=>req c z) (fun x=>some (res x)) x.1 x.2.1 x.2.2.1) (fun _ _=>by kernel_rfl) (by
 intro x y
 show J _ (g chk (fun x=>(true,x)) x.1 x.2.1 x.2.2.1) (g (fun c z=>req c z) (fun x=>some (res x)) x.1 x.2.1 x.2.2.1)
 unfold g
 with_reducible repeat (first|(apply J.lt; intro _)|apply J.rq|apply J.bif|exact J.rt rfl))
end dD
namespace aA
abbrev X:Type:=Bool
def res (x:Bool):Res:=⟨[.val ⟨.bool,x⟩],[],[]⟩
def brn (w:Bool×X):Brn Res:= .one w.1 (res w.2)
theorem dA (w:Bool×X):(brn w).res=(w.1,res w.2):=rfl
abbrev sh2:List (Nat×Sh):= [(6,.p .bool),(8,.p (.int .i64)),(12,.p (.sl (.int .i64))),(13,.va 502000 (.int .i64)),(17,.p (.sl (.sl (.arr 4 (.int .u64))))),(19,.va 502001 (.int .i64)),(20,.p (.int .i64)),(21,.p (.int .i64)),(22,.p (.int .i64))]
abbrev bx2:List (Nat×Ty):= [(502000,.dyn (.int .i64)),(502001,.dyn (.int .i64))]
abbrev Jc:List (Nat×Ty):= [(502000,.dyn (.int .i64)),(502001,.dyn (.int .i64))]
abbrev I4:List (Nat×Sh):= []
abbrev JX:List (Nat×Ty):= []
abbrev Og:List (Nat×Ty):= []
abbrev X2:Type:=Bool×Int×(List Int)×Unit×(List (List (List Int)))×Unit×Int×Int×Int×Unit
abbrev Y2:Type:=(Bool×List Int)×(Bool×List Int)×Unit
abbrev U2:Type:=Unit
abbrev V2:Type:=Unit
def g2 {Z:Type} (rq:Bool→Z→Z) (kn:X2→Y2→Z) (ke:Nat→X2→Y2→Z) (kr:U2→V2→Z) (x:X2) (y:Y2):Z:=
lt (x.2.2.2.2.1.getD x.2.2.2.2.2.2.1.toNat []) fun (v2363:(List (List Int)))=>
rq (ile (0:Int) x.2.2.2.2.2.2.1&&ilt x.2.2.2.2.2.2.1 (x.2.2.2.2.1.length:Int))<|
lt (v2363.length:Int) fun (v2364:Int)=>
lt (ilt x.2.2.2.2.2.2.2.2.1 v2364) fun v2365=>
bif v2365 then
lt (y.1.2.length:Int) fun (v2366:Int)=>
lt (ilt x.2.2.2.2.2.2.2.2.1 v2366) fun v2367=>
bif v2367 then
lt (x.2.2.2.2.1.getD x.2.2.2.2.2.2.1.toNat []) fun (v2368:(List (List Int)))=>
rq (ile (0:Int) x.2.2.2.2.2.2.1&&ilt x.2.2.2.2.2.2.1 (x.2.2.2.2.1.length:Int))<|
lt (v2368.getD x.2.2.2.2.2.2.2.2.1.toNat [0,0,0,0]) fun (v2369:(List Int))=>
rq (ile (0:Int) x.2.2.2.2.2.2.2.2.1&&ilt x.2.2.2.2.2.2.2.2.1 (v2368.length:Int))<|
lt (iG.r v2369 x.2.1) fun w2370=>
rq w2370.1<|
rq (ile (0:Int) x.2.2.2.2.2.2.2.2.1&&ilt x.2.2.2.2.2.2.2.2.1 (y.1.2.length:Int))<|
lt (y.1.2.getD x.2.2.2.2.2.2.2.2.1.toNat 0) fun (v2371:Int)=>
lt (bG.ro w2370.2 v2371 x.2.1) fun w2372=>
rq w2372.1<|
lt (dU.r x.2.2.2.2.2.2.2.1 w2372.2 x.2.1) fun w2373=>
rq w2373.1<|
lt (IntKind.i64.wrap (x.2.2.2.2.2.2.2.2.1+1)) fun v2374=>
kn (x.1,x.2.1,x.2.2.1,(),x.2.2.2.2.1,(),x.2.2.2.2.2.2.1,w2373.2,v2374,()) (y.1,y.2.1,())
else
ke 4 (x.1,x.2.1,x.2.2.1,(),x.2.2.2.2.1,(),x.2.2.2.2.2.2.1,x.2.2.2.2.2.2.2.1,x.2.2.2.2.2.2.2.2.1,()) (y.1,y.2.1,())
else
ke 4 (x.1,x.2.1,x.2.2.1,(),x.2.2.2.2.1,(),x.2.2.2.2.2.2.1,x.2.2.2.2.2.2.2.1,x.2.2.2.2.2.2.2.2.1,()) (y.1,y.2.1,())
def fu2 (x:X2) (y:Y2):Nat:=(((x.2.2.2.2.1.getD x.2.2.2.2.2.2.1.toNat []).length:Int) - x.2.2.2.2.2.2.2.2.1).toNat+1
def l2 (x:X2) (y:Y2):Bool×Nat×X2×Y2×U2×V2:=rounds (fun rq kn ke kr x y=>g2 rq kn ke kr x y) () () (fu2 x y) x y
abbrev sh1:List (Nat×Sh):= [(6,.p .bool),(8,.p (.int .i64)),(12,.p (.sl (.int .i64))),(13,.va 501000 (.int .i64)),(17,.p (.sl (.sl (.arr 4 (.int .u64))))),(19,.va 501001 (.int .i64)),(20,.p (.int .i64))]
abbrev bx1:List (Nat×Ty):= [(501000,.dyn (.int .i64)),(501001,.dyn (.int .i64))]
abbrev kI:List (Nat×Ty):= [(501000,.dyn (.int .i64)),(501001,.dyn (.int .i64))]
abbrev kH:List (Nat×Sh):= [(6,.p .bool)]
abbrev kN:List (Nat×Ty):= []
abbrev nZ:List (Nat×Ty):= []
abbrev X1:Type:=Bool×Int×(List Int)×Unit×(List (List (List Int)))×Unit×Int×Unit
abbrev Y1:Type:=(Bool×List Int)×(Bool×List Int)×Unit
abbrev U1:Type:=Bool×Unit
abbrev V1:Type:=Unit
def g1 {Z:Type} (rq:Bool→Z→Z) (kn:X1→Y1→Z) (ke:Nat→X1→Y1→Z) (kr:U1→V1→Z) (x:X1) (y:Y1):Z:=
lt (x.2.2.2.2.1.length:Int) fun (v2357:Int)=>
lt (ilt x.2.2.2.2.2.2.1 v2357) fun v2358=>
bif v2358 then
lt (x.2.2.2.2.1.getD x.2.2.2.2.2.2.1.toNat []) fun (v2359:(List (List Int)))=>
rq (ile (0:Int) x.2.2.2.2.2.2.1&&ilt x.2.2.2.2.2.2.1 (x.2.2.2.2.1.length:Int))<|
lt (v2359.length:Int) fun (v2360:Int)=>
lt (x.2.2.1.length:Int) fun (v2361:Int)=>
lt (v2360 != v2361) fun (v2362:Bool)=>
bif v2362 then
kr (false,()) ()
else
lt (aA.l2 (x.1,x.2.1,x.2.2.1,(),x.2.2.2.2.1,(),x.2.2.2.2.2.2.1,0,0,()) (y.1,y.2.1,())) fun w2375=>
rq w2375.1<|
lt (w2375.2.2.2.1.2.1.1&&false) fun (v2376:Bool)=>
lt (w2375.2.2.2.1.2.1.2++ [w2375.2.2.1.2.2.2.2.2.2.2.1]) fun (v2377:(List Int))=>
rq (nle ((2*(w2375.2.2.2.1.2.1.2.length+1)+512)*8) 70368744177664)<|
lt (IntKind.i64.wrap (w2375.2.2.1.2.2.2.2.2.2.1+1)) fun v2378=>
kn (w2375.2.2.1.1,w2375.2.2.1.2.1,w2375.2.2.1.2.2.1,(),w2375.2.2.1.2.2.2.2.1,(),v2378,()) (w2375.2.2.2.1.1,(v2376,v2377),())
else
ke 2 (x.1,x.2.1,x.2.2.1,(),x.2.2.2.2.1,(),x.2.2.2.2.2.2.1,()) (y.1,y.2.1,())
def fu1 (x:X1) (y:Y1):Nat:=((x.2.2.2.2.1.length:Int) - x.2.2.2.2.2.2.1).toNat+1
def l1 (x:X1) (y:Y1):Bool×Nat×X1×Y1×U1×V1:=rounds (fun rq kn ke kr x y=>g1 rq kn ke kr x y) (false,()) () (fu1 x y) x y
abbrev sh0:List (Nat×Sh):= [(6,.p .bool),(7,.p (.ref au)),(8,.p (.int .i64)),(10,.p (.sl fJ)),(12,.va 500000 (.int .i64)),(13,.va 500001 (.int .i64)),(14,.p (.int .i64))]
abbrev bx0:List (Nat×Ty):= [(500000,.dyn (.int .i64)),(500001,.dyn (.int .i64))]
abbrev aZ:List (Nat×Ty):= [(500000,.dyn (.int .i64)),(500001,.dyn (.int .i64))]
abbrev aY:List (Nat×Sh):= []
abbrev bf:List (Nat×Ty):= []
abbrev bU:List (Nat×Ty):= []
abbrev X0:Type:=Bool×(Option aj)×Int×(List bQ)×Unit×Unit×Int×Unit
abbrev Y0:Type:=(Bool×List Int)×(Bool×List Int)×Unit
abbrev U0:Type:=Unit
abbrev V0:Type:=Unit
def g0 {Z:Type} (rq:Bool→Z→Z) (kn:X0→Y0→Z) (ke:Nat→X0→Y0→Z) (kr:U0→V0→Z) (x:X0) (y:Y0):Z:=
lt (x.2.2.2.1.length:Int) fun (v2340:Int)=>
lt (IntKind.i64.wrap (v2340 - 1)) fun v2341=>
lt (ilt x.2.2.2.2.2.2.1 v2341) fun v2342=>
bif v2342 then
lt (x.2.2.2.1.getD x.2.2.2.2.2.2.1.toNat (0,([0,0,0,0],()))) fun (v2343:bQ)=>
rq (ile (0:Int) x.2.2.2.2.2.2.1&&ilt x.2.2.2.2.2.2.1 (x.2.2.2.1.length:Int))<|
lt (bM.r v2343.2.1) fun w2344=>
rq w2344.1<|
lt (x.2.2.2.1.getD x.2.2.2.2.2.2.1.toNat (0,([0,0,0,0],()))) fun (v2345:bQ)=>
rq (ile (0:Int) x.2.2.2.2.2.2.1&&ilt x.2.2.2.2.2.2.1 (x.2.2.2.1.length:Int))<|
lt (y.1.1&&false) fun (v2346:Bool)=>
lt (y.1.2++ [v2345.1]) fun (v2347:(List Int))=>
rq (nle ((2*(y.1.2.length+1)+512)*8) 70368744177664)<|
lt (y.2.1.1&&false) fun (v2348:Bool)=>
lt (y.2.1.2++ [w2344.2.1]) fun (v2349:(List Int))=>
rq (nle ((2*(y.2.1.2.length+1)+512)*8) 70368744177664)<|
lt (IntKind.i64.wrap (x.2.2.2.2.2.2.1+1)) fun v2350=>
kn (x.1,x.2.1,x.2.2.1,x.2.2.2.1,(),(),v2350,()) ((v2346,v2347),(v2348,v2349),())
else
ke 0 (x.1,x.2.1,x.2.2.1,x.2.2.2.1,(),(),x.2.2.2.2.2.2.1,()) (y.1,y.2.1,())
def fu0 (x:X0) (y:Y0):Nat:=((IntKind.i64.wrap ((x.2.2.2.1.length:Int) - 1)) - x.2.2.2.2.2.2.1).toNat+1
def l0 (x:X0) (y:Y0):Bool×Nat×X0×Y0×U0×V0:=rounds (fun rq kn ke kr x y=>g0 rq kn ke kr x y) () () (fu0 x y) x y
def g {Z:Type} (rq:Bool→Z→Z) (rt:X→Z) (which:Int) (f:(List (List Int))) (secret:(List Int)):Z:=
lt (f.length:Int) fun (v2325:Int)=>
lt (ilt v2325 1) fun v2326=>
bif v2326 then
lt dL.ro fun w2327=>
rq w2327.1<|
rt w2327.2
else
lt (f.length:Int) fun (v2328:Int)=>
lt (ilt 6 v2328) fun v2329=>
bif v2329 then
lt dL.ro fun w2330=>
rq w2330.1<|
rt w2330.2
else
lt (dK.r which) fun w2331=>
rq w2331.1<|
lt (f.length:Int) fun (v2332:Int)=>
lt (gq.r w2331.2.1 f v2332) fun w2333=>
rq w2333.1<|
lt (!w2331.2.2.2) fun (v2334:Bool)=>
bif v2334 then
rt false
else
lt (w2333.2.2 != 0) fun (v2335:Bool)=>
bif v2335 then
rt false
else
lt (w2333.2.1.length:Int) fun (v2336:Int)=>
lt (f.length:Int) fun (v2337:Int)=>
lt (v2336 != v2337) fun (v2338:Bool)=>
bif v2338 then
rt false
else
lt (iG.r secret w2331.2.2.1) fun w2339=>
rq w2339.1<|
lt (aA.l0 (false,w2331.2.1,w2331.2.2.1,w2333.2.1,(),(),0,()) ((false,[0]),(false,[w2339.2]),())) fun w2351=>
rq w2351.1<|
lt (bF.r w2351.2.2.1.2.1 w2351.2.2.2.1.1.2) fun w2352=>
rq w2352.1<|
lt (w2352.2.2 != 0) fun (v2353:Bool)=>
bif v2353 then
rt false
else
lt (w2352.2.1.length:Int) fun (v2354:Int)=>
lt (w2351.2.2.2.1.1.2.length:Int) fun (v2355:Int)=>
lt (v2354 != v2355) fun (v2356:Bool)=>
bif v2356 then
rt false
else
lt (aA.l1 (w2351.2.2.1.1,w2351.2.2.1.2.2.1,w2351.2.2.2.1.1.2,(),w2352.2.1,(),0,()) (w2351.2.2.2.1.2.1,(true,[]),())) fun w2379=>
rq w2379.1<|
bif Nat.beq w2379.2.1 0 then
rt w2379.2.2.2.2.1.1
else
lt (bK.r w2379.2.2.2.1.2.1.2) fun w2392=>
rq w2392.1<|
lt (aQ.r w2379.2.2.1.2.2.1 w2379.2.2.2.1.1.2 w2379.2.2.1.2.1) fun w2545=>
rq w2545.1<|
lt (dB.r w2392.2 w2545.2) fun w2558=>
rq w2558.1<|
bif w2558.2 then
lt (dD.r w2379.2.2.2.1.2.1.2 0 w2379.2.2.1.2.1) fun w2569=>
rq w2569.1<|
lt (w2379.2.2.2.1.1.2.getD 0 0) fun (v2570:Int)=>
rq (ilt (0:Int) (w2379.2.2.2.1.1.2.length:Int))<|
lt (w2569.2== v2570) fun (v2571:Bool)=>
bif v2571 then
lt dL.ro fun w2572=>
rq w2572.1<|
rt w2572.2
else
rt false
else
rt false
def r (which:Int) (f:(List (List Int))) (secret:(List Int)):Bool×X:=g chk (fun x=>(true,x)) which f secret
def D:aI:=Dof (P:=Tryz.prog) [dL.oC,dK.ent,gq.ent,iG.ent,bM.ent,bF.ent,bG.oC,dU.ent,bK.ent,aQ.ent,dB.ent,dD.ent]
abbrev lf2:=bY (R:=Res) [5] (rounds (fun rq kn ke kr x y=>g2 rq kn ke kr x y) () ()) fu2
abbrev lf1:=bY (R:=Res) [0,3] (rounds (fun rq kn ke kr x y=>g1 rq kn ke kr x y) (false,()) ()) fu1
abbrev lf0:=bY (R:=Res) [1] (rounds (fun rq kn ke kr x y=>g0 rq kn ke kr x y) () ()) fu0
def tab:List (Nat×LE Res):= [(27,.typed (eB 177 sh2 bx2 Jc I4 JX (lf2))),(21,.typed (eB 177 sh1 bx1 kI kH kN (lf1))),(11,.typed (eB 177 sh0 bx0 aZ aY bf (lf0)))]
theorem run (which:Int) (f:(List (List Int))) (secret:(List Int)):iD E0 [true] D (iR E0 D tab 9) Tryz.f3 (codeOf Tryz.f3) [.val ⟨.int .i64,which⟩,.val ⟨.sl (.arr 4 (.int .u64)),f⟩,.val ⟨.arr 4 (.int .u64),secret⟩] []=g (fun c z=>req c z) (fun x=>some (res x)) which f secret:=by kernel_rfl
theorem rel (which:Int) (f:(List (List Int))) (secret:(List Int)):J (fun w z=>z=some (res w)) (g chk (fun x=>(true,x)) which f secret) (g (fun c z=>req c z) (fun x=>some (res x)) which f secret):=by
 unfold g
 with_reducible repeat (first|(apply J.lt; intro _)|apply J.rq|apply J.bif|exact J.rt rfl)
theorem Nq:Nonempty (Told E0 D tab Tryz.f3.ntmps (aF (codeOf Tryz.f3) 2) 177 sh2 bx2 Jc I4 JX lf2):=eX (sh:=sh2) (bx:=bx2) (ord:=Jc) (shR:=I4) (bxR:=JX) Og (by kernel_rfl) (by kernel_rfl) (by kernel_rfl) [5] _ _ _ @g2 (fun _ _ _ _ _=>by kernel_rfl) (by
  intro _ _ _ _ _ _ _ h i k x y
  simp only [g2]
  with_reducible repeat (first|(apply J.lt; intro _)|apply J.rq|apply J.bif|exact h _ _|exact i _ (by decide) _ _|exact k (by decide) _ _))
theorem nW:Nonempty (Told E0 D tab Tryz.f3.ntmps (aF (codeOf Tryz.f3) 1) 177 sh1 bx1 kI kH kN lf1):=eX (sh:=sh1) (bx:=bx1) (ord:=kI) (shR:=kH) (bxR:=kN) nZ (by kernel_rfl) (by kernel_rfl) (by kernel_rfl) [0,3] _ _ _ @g1 (fun _ _ _ _ _=>by kernel_rfl) (by
  intro _ _ _ _ _ _ _ h i k x y
  simp only [g1]
  with_reducible repeat (first|(apply J.lt; intro _)|apply J.rq|apply J.bif|exact h _ _|exact i _ (by decide) _ _|exact k (by decide) _ _))
theorem bR:Nonempty (Told E0 D tab Tryz.f3.ntmps (aF (codeOf Tryz.f3) 0) 177 sh0 bx0 aZ aY bf lf0):=eX (sh:=sh0) (bx:=bx0) (ord:=aZ) (shR:=aY) (bxR:=bf) bU (by kernel_rfl) (by kernel_rfl) (by kernel_rfl) [1] _ _ _ @g0 (fun _ _ _ _ _=>by kernel_rfl) (by
  intro _ _ _ _ _ _ _ h i k x y
  simp only [g0]
  with_reducible repeat (first|(apply J.lt; intro _)|apply J.rq|apply J.bif|exact h _ _|exact i _ (by decide) _ _|exact k (by decide) _ _))
theorem bT:fF E0 D tab Tryz.f3.ntmps (codeOf Tryz.f3):=bN (bs:= [aF (codeOf Tryz.f3) 0,aF (codeOf Tryz.f3) 1,aF (codeOf Tryz.f3) 2]) (by kernel_rfl) (aD (bI (by kernel_rfl) (bR)) (aD (bI (by kernel_rfl) (nW)) (aD (bI (by kernel_rfl) (Nq)) aL)))
theorem ok:oq Tryz.f3=true:=by kernel_rfl
abbrev aS:List AS:= [.one (.val (.int .i64)),.one (.val (.sl (.arr 4 (.int .u64)))),.one (.val (.arr 4 (.int .u64)))]
abbrev bS:List Ty:= []
def F (x:ASs aS) (y:Bs bS):Brn Res:=brn (r x.1 x.2.1 x.2.2.1)
theorem good (x:ASs aS) (y:Bs bS) (h:(F x y).res.1=true):Good Tryz.prog 3 (ASs.mk aS x) (Bs.mk bS y) (F x y).res.2:=
 fZ hE0 (ay _) Tryz.func3 ok bT dA (run x.1 x.2.1 x.2.2.1) (rel x.1 x.2.1 x.2.2.1) h
def ent:Ent Tryz.prog:=⟨3,shF aS bS F,bX good⟩
end aA
end Go.Own
