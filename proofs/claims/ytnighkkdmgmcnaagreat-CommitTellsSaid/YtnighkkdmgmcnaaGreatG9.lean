/- What functions compute, printed by wip/gen/gen2.py. -/
import Derived.Test.YtnighkkdmgmcnaaGreatG8
set_option linter.unusedVariables false
set_option linter.unusedSimpArgs false
set_option maxRecDepth 100000
noncomputable section
namespace Go.Own
open Go.Proofs Go.Proofs.YtnighkkdmgmcnaaGreat
namespace dV
abbrev X:Type:=(List Int)
def res (x:(List Int)):Res:=⟨[.val ⟨.sl (.int .i64),x⟩],[],[]⟩
abbrev sh0:List (Nat×Sh):= [(0,.p (.sl (.int .i64))),(2,.nil),(3,.p (.int .i64))]
abbrev bx0:List (Nat×Ty):= []
abbrev aZ:List (Nat×Ty):= []
abbrev aY:List (Nat×Sh):= []
abbrev bf:List (Nat×Ty):= []
abbrev bW:List (Nat×Ty):= []
abbrev X0:Type:=(List Int)×Unit×Int×Unit
abbrev Y0:Type:=Unit
abbrev U0:Type:=Unit
abbrev V0:Type:=Unit
def g0 {Z:Type} (rq:Bool→Z→Z) (kn:X0→Y0→Z) (ke:Nat→X0→Y0→Z) (kr:U0→V0→Z) (x:X0) (y:Y0):Z:=
lt (ilt 0 x.2.2.1) fun v2362=>
bif v2362 then
lt (IntKind.i64.wrap (x.2.2.1 - 1)) fun v2363=>
lt (x.1.getD v2363.toNat 0) fun (v2364:Int)=>
rq (ile (0:Int) v2363&&ilt v2363 (x.1.length:Int))<|
lt (v2364== 0) fun (v2365:Bool)=>
bif v2365 then
lt (IntKind.i64.wrap (x.2.2.1 - 1)) fun v2366=>
kn (x.1,(),v2366,()) ()
else
ke 0 (x.1,(),x.2.2.1,()) ()
else
ke 0 (x.1,(),x.2.2.1,()) ()
def fu0 (x:X0) (y:Y0):Nat:=(x.2.2.1 - (0:Int)).toNat+1
def l0 (x:X0) (y:Y0):Bool×Nat×X0×Y0×U0×V0:=rounds (fun rq kn ke kr x y=>g0 rq kn ke kr x y) () () (fu0 x y) x y
def g {Z:Type} (rq:Bool→Z→Z) (rt:X→Z) (f:(List Int)):Z:=
lt (f.length:Int) fun (v2357:Int)=>
lt (dV.l0 (f,(),v2357,()) ()) fun w2367=>
rq w2367.1<|
lt (w2367.2.2.1.1.take w2367.2.2.1.2.2.1.toNat) fun (v2368:(List Int))=>
rq (ile (0:Int) w2367.2.2.1.2.2.1&&ile w2367.2.2.1.2.2.1 (w2367.2.2.1.1.length:Int))<|
rt v2368
def r (f:(List Int)):Bool×X:=g chk (fun x=>(true,x)) f
def D:aH:=Dof (P:=Tryz.prog) []
abbrev lf0:=dh (R:=Res) [1] (rounds (fun rq kn ke kr x y=>g0 rq kn ke kr x y) () ()) fu0
def tab:List (Nat×LE Res):= [(3,.typed (eG 21 sh0 bx0 aZ aY bf (lf0)))]
theorem bT:Nonempty (Told E0 D tab Tryz.f11.ntmps (aF (codeOf Tryz.f11) 0) 21 sh0 bx0 aZ aY bf lf0):=fE (sh:=sh0) (bx:=bx0) (ord:=aZ) (shR:=aY) (bxR:=bf) bW (by kernel_rfl) (by kernel_rfl) (by kernel_rfl) [1] _ _ _ @g0 (fun _ _ _ _ _=>by kernel_rfl) (by
  intro _ _ _ _ _ _ _ h i k x y
  simp only [g0]
  with_reducible repeat (first|(apply J.lt; intro _)|apply J.rq|apply J.bif|exact h _ _|exact i _ (by decide) _ _|exact k (by decide) _ _))
theorem bU:fI E0 D tab Tryz.f11.ntmps (codeOf Tryz.f11):=bP (bs:= [aF (codeOf Tryz.f11) 0]) (by kernel_rfl) (aD (bO (by kernel_rfl) (bT)) aO)
abbrev aS:List AS:= [.one (.val (.sl (.int .i64)))]
abbrev bS:List Ty:= []
def ent:Ent Tryz.prog:=bE (D:=D) (tab:=tab) hE0 (ay _) [true] Tryz.func11 (by kernel_rfl) bU aS bS res (fun x y=>r x.1) (fun x y=>g (fun c z=>req c z) (fun x=>some (res x)) x.1) (fun _ _=>by kernel_rfl) (by
 intro x y
 show J _ (g chk (fun x=>(true,x)) x.1) (g (fun c z=>req c z) (fun x=>some (res x)) x.1)
 unfold g
 with_reducible repeat (first|(apply J.lt; intro _)|apply J.rq|apply J.bif|exact J.rt rfl))
end dV
namespace d9
abbrev X:Type:=Bool
def res (x:Bool):Res:=⟨[.val ⟨.bool,x⟩],[],[]⟩
def g {Z:Type} (rq:Bool→Z→Z) (rt:X→Z) (s:aN) (a:(List Int)):Z:=
lt (bM.r a) fun w2379=>
rq w2379.1<|
bif w2379.2.2 then
lt (ilt 0 w2379.2.1) fun v2380=>
bif v2380 then
lt (ilt w2379.2.1 s.1) fun v2381=>
bif v2381 then
lt (aI.r s.2.1) fun w2382=>
rq w2382.1<|
lt (bQ.r s w2379.2.1 w2382.2) fun w2383=>
rq w2383.1<|
lt (w2383.2== 1) fun (v2384:Bool)=>
rt v2384
else
rt false
else
rt false
else
rt false
def r (s:aN) (a:(List Int)):Bool×X:=g chk (fun x=>(true,x)) s a
def D:aH:=Dof (P:=Tryz.prog) [bM.ent,aI.ent,bQ.ent]
def tab:List (Nat×LE Res):= []
abbrev aS:List AS:= [.one (.val aV),.one (.val (.arr 4 (.int .u64)))]
abbrev bS:List Ty:= []
def ent:Ent Tryz.prog:=bE (D:=D) (tab:=tab) hE0 (ay _) [true] Tryz.func24 (by kernel_rfl) aC aS bS res (fun x y=>r x.1 x.2.1) (fun x y=>g (fun c z=>req c z) (fun x=>some (res x)) x.1 x.2.1) (fun _ _=>by kernel_rfl) (by
 intro x y
 show J _ (g chk (fun x=>(true,x)) x.1 x.2.1) (g (fun c z=>req c z) (fun x=>some (res x)) x.1 x.2.1)
 unfold g
 with_reducible repeat (first|(apply J.lt; intro _)|apply J.rq|apply J.bif|exact J.rt rfl))
end d9
namespace aW
abbrev X:Type:=Bool
def res (x:Bool):Res:=⟨[.val ⟨.bool,x⟩],[],[]⟩
abbrev sh0:List (Nat×Sh):= [(1,.p (.sl (.arr 4 (.int .u64)))),(2,.pb 500000 aV []),(4,.p .bool),(5,.p (.int .i64))]
abbrev bx0:List (Nat×Ty):= [(500000,aV)]
abbrev aZ:List (Nat×Ty):= [(500000,aV)]
abbrev aY:List (Nat×Sh):= [(4,.p .bool)]
abbrev bf:List (Nat×Ty):= []
abbrev bW:List (Nat×Ty):= []
abbrev X0:Type:=(List (List Int))×Unit×Bool×Int×Unit
abbrev Y0:Type:=aN×Unit
abbrev U0:Type:=Bool×Unit
abbrev V0:Type:=Unit
def g0 {Z:Type} (rq:Bool→Z→Z) (kn:X0→Y0→Z) (ke:Nat→X0→Y0→Z) (kr:U0→V0→Z) (x:X0) (y:Y0):Z:=
lt (x.1.length:Int) fun (v2376:Int)=>
lt (ilt x.2.2.2.1 v2376) fun v2377=>
bif v2377 then
lt (x.1.getD x.2.2.2.1.toNat [0,0,0,0]) fun (v2378:(List Int))=>
rq (ile (0:Int) x.2.2.2.1&&ilt x.2.2.2.1 (x.1.length:Int))<|
lt (d9.r y.1 v2378) fun w2385=>
rq w2385.1<|
lt (!w2385.2) fun (v2386:Bool)=>
bif v2386 then
kr (false,()) ()
else
lt (IntKind.i64.wrap (x.2.2.2.1+1)) fun v2387=>
kn (x.1,(),x.2.2.1,v2387,()) (y.1,())
else
ke 0 (x.1,(),x.2.2.1,x.2.2.2.1,()) (y.1,())
def fu0 (x:X0) (y:Y0):Nat:=((x.1.length:Int) - x.2.2.2.1).toNat+1
def l0 (x:X0) (y:Y0):Bool×Nat×X0×Y0×U0×V0:=rounds (fun rq kn ke kr x y=>g0 rq kn ke kr x y) (false,()) () (fu0 x y) x y
def g {Z:Type} (rq:Bool→Z→Z) (rt:X→Z) (s:aN) (c:(List (List Int))):Z:=
lt (aW.l0 (c,(),false,0,()) (s,())) fun w2388=>
rq w2388.1<|
bif Nat.beq w2388.2.1 0 then
rt w2388.2.2.2.2.1.1
else
lt (w2388.2.2.1.1.length:Int) fun (v2389:Int)=>
lt (ile 1 v2389) fun v2390=>
bif v2390 then
lt (w2388.2.2.1.1.length:Int) fun (v2391:Int)=>
lt (ile v2391 7) fun v2392=>
rt v2392
else
rt false
def r (s:aN) (c:(List (List Int))):Bool×X:=g chk (fun x=>(true,x)) s c
def D:aH:=Dof (P:=Tryz.prog) [d9.ent]
abbrev lf0:=dh (R:=Res) [0,1] (rounds (fun rq kn ke kr x y=>g0 rq kn ke kr x y) (false,()) ()) fu0
def tab:List (Nat×LE Res):= [(3,.typed (eG 27 sh0 bx0 aZ aY bf (lf0)))]
theorem bT:Nonempty (Told E0 D tab Tryz.f15.ntmps (aF (codeOf Tryz.f15) 0) 27 sh0 bx0 aZ aY bf lf0):=fE (sh:=sh0) (bx:=bx0) (ord:=aZ) (shR:=aY) (bxR:=bf) bW (by kernel_rfl) (by kernel_rfl) (by kernel_rfl) [0,1] _ _ _ @g0 (fun _ _ _ _ _=>by kernel_rfl) (by
  intro _ _ _ _ _ _ _ h i k x y
  simp only [g0]
  with_reducible repeat (first|(apply J.lt; intro _)|apply J.rq|apply J.bif|exact h _ _|exact i _ (by decide) _ _|exact k (by decide) _ _))
theorem bU:fI E0 D tab Tryz.f15.ntmps (codeOf Tryz.f15):=bP (bs:= [aF (codeOf Tryz.f15) 0]) (by kernel_rfl) (aD (bO (by kernel_rfl) (bT)) aO)
abbrev aS:List AS:= [.one (.val aV),.one (.val (.sl (.arr 4 (.int .u64))))]
abbrev bS:List Ty:= []
def ent:Ent Tryz.prog:=bE (D:=D) (tab:=tab) hE0 (ay _) [true] Tryz.func15 (by kernel_rfl) bU aS bS res (fun x y=>r x.1 x.2.1) (fun x y=>g (fun c z=>req c z) (fun x=>some (res x)) x.1 x.2.1) (fun _ _=>by kernel_rfl) (by
 intro x y
 show J _ (g chk (fun x=>(true,x)) x.1 x.2.1) (g (fun c z=>req c z) (fun x=>some (res x)) x.1 x.2.1)
 unfold g
 with_reducible repeat (first|(apply J.lt; intro _)|apply J.rq|apply J.bif|exact J.rt rfl))
end aW
namespace cK
abbrev X:Type:=(List (List Int))
def res (x:(List (List Int))):Res:=⟨[.val ⟨.sl (.arr 4 (.int .u64)),x⟩],[],[]⟩
abbrev sh0:List (Nat×Sh):= [(1,.p (.sl (.int .i64))),(2,.p (.int .i64)),(3,.pb 500000 aV []),(6,.nil),(7,.va 500001 (.arr 4 (.int .u64))),(8,.p (.int .i64))]
abbrev bx0:List (Nat×Ty):= [(500000,aV),(500001,.dyn (.arr 4 (.int .u64)))]
abbrev aZ:List (Nat×Ty):= [(500000,aV),(500001,.dyn (.arr 4 (.int .u64)))]
abbrev aY:List (Nat×Sh):= []
abbrev bf:List (Nat×Ty):= []
abbrev bW:List (Nat×Ty):= []
abbrev X0:Type:=(List Int)×Int×Unit×Unit×Unit×Int×Unit
abbrev Y0:Type:=aN×(Bool×List (List Int))×Unit
abbrev U0:Type:=Unit
abbrev V0:Type:=Unit
def g0 {Z:Type} (rq:Bool→Z→Z) (kn:X0→Y0→Z) (ke:Nat→X0→Y0→Z) (kr:U0→V0→Z) (x:X0) (y:Y0):Z:=
lt (ilt x.2.2.2.2.2.1 x.2.1) fun v2430=>
bif v2430 then
lt (x.1.length:Int) fun (v2431:Int)=>
lt (ilt x.2.2.2.2.2.1 v2431) fun v2432=>
bif v2432 then
lt (x.1.getD x.2.2.2.2.2.1.toNat 0) fun (v2433:Int)=>
rq (ile (0:Int) x.2.2.2.2.2.1&&ilt x.2.2.2.2.2.1 (x.1.length:Int))<|
lt (aI.r v2433) fun w2434=>
rq w2434.1<|
lt (bQ.r y.1 y.1.2.2.1 w2434.2) fun w2435=>
rq w2435.1<|
lt (aI.r w2435.2) fun w2436=>
rq w2436.1<|
lt (y.2.1.1&&false) fun (v2437:Bool)=>
lt (y.2.1.2++ [w2436.2]) fun (v2438:(List (List Int)))=>
rq (nle ((2*(y.2.1.2.length+1)+512)*32) 70368744177664)<|
lt (IntKind.i64.wrap (x.2.2.2.2.2.1+1)) fun v2439=>
kn (x.1,x.2.1,(),(),(),v2439,()) (y.1,(v2437,v2438),())
else
lt (aI.r 0) fun w2440=>
rq w2440.1<|
lt (bQ.r y.1 y.1.2.2.1 w2440.2) fun w2441=>
rq w2441.1<|
lt (aI.r w2441.2) fun w2442=>
rq w2442.1<|
lt (y.2.1.1&&false) fun (v2443:Bool)=>
lt (y.2.1.2++ [w2442.2]) fun (v2444:(List (List Int)))=>
rq (nle ((2*(y.2.1.2.length+1)+512)*32) 70368744177664)<|
lt (IntKind.i64.wrap (x.2.2.2.2.2.1+1)) fun v2445=>
kn (x.1,x.2.1,(),(),(),v2445,()) (y.1,(v2443,v2444),())
else
ke 0 (x.1,x.2.1,(),(),(),x.2.2.2.2.2.1,()) (y.1,y.2.1,())
def fu0 (x:X0) (y:Y0):Nat:=(x.2.1 - x.2.2.2.2.2.1).toNat+1
def l0 (x:X0) (y:Y0):Bool×Nat×X0×Y0×U0×V0:=rounds (fun rq kn ke kr x y=>g0 rq kn ke kr x y) () () (fu0 x y) x y
def g {Z:Type} (rq:Bool→Z→Z) (rt:X→Z) (s:aN) (f:(List Int)) (n:Int):Z:=
lt (cK.l0 (f,n,(),(),(),0,()) (s,(true,[]),())) fun w2446=>
rq w2446.1<|
rt w2446.2.2.2.1.2.1.2
def r (s:aN) (f:(List Int)) (n:Int):Bool×X:=g chk (fun x=>(true,x)) s f n
def D:aH:=Dof (P:=Tryz.prog) [aI.ent,bQ.ent]
abbrev lf0:=dh (R:=Res) [1] (rounds (fun rq kn ke kr x y=>g0 rq kn ke kr x y) () ()) fu0
def tab:List (Nat×LE Res):= [(4,.typed (eG 34 sh0 bx0 aZ aY bf (lf0)))]
theorem bT:Nonempty (Told E0 D tab Tryz.f20.ntmps (aF (codeOf Tryz.f20) 0) 34 sh0 bx0 aZ aY bf lf0):=fE (sh:=sh0) (bx:=bx0) (ord:=aZ) (shR:=aY) (bxR:=bf) bW (by kernel_rfl) (by kernel_rfl) (by kernel_rfl) [1] _ _ _ @g0 (fun _ _ _ _ _=>by kernel_rfl) (by
  intro _ _ _ _ _ _ _ h i k x y
  simp only [g0]
  with_reducible repeat (first|(apply J.lt; intro _)|apply J.rq|apply J.bif|exact h _ _|exact i _ (by decide) _ _|exact k (by decide) _ _))
theorem bU:fI E0 D tab Tryz.f20.ntmps (codeOf Tryz.f20):=bP (bs:= [aF (codeOf Tryz.f20) 0]) (by kernel_rfl) (aD (bO (by kernel_rfl) (bT)) aO)
abbrev aS:List AS:= [.one (.val aV),.one (.val (.sl (.int .i64))),.one (.val (.int .i64))]
abbrev bS:List Ty:= []
def ent:Ent Tryz.prog:=bE (D:=D) (tab:=tab) hE0 (ay _) [true] Tryz.func20 (by kernel_rfl) bU aS bS res (fun x y=>r x.1 x.2.1 x.2.2.1) (fun x y=>g (fun c z=>req c z) (fun x=>some (res x)) x.1 x.2.1 x.2.2.1) (fun _ _=>by kernel_rfl) (by
 intro x y
 show J _ (g chk (fun x=>(true,x)) x.1 x.2.1 x.2.2.1) (g (fun c z=>req c z) (fun x=>some (res x)) x.1 x.2.1 x.2.2.1)
 unfold g
 with_reducible repeat (first|(apply J.lt; intro _)|apply J.rq|apply J.bif|exact J.rt rfl))
end cK
namespace iX
abbrev X:Type:=Int
def res (x:Int):Res:=⟨[.val ⟨.int .i64,x⟩],[],[]⟩
def g {Z:Type} (rq:Bool→Z→Z) (rt:X→Z) (s:aN) (a:Int) (b:Int):Z:=
lt (dW.r a b s.1) fun w2513=>
rq w2513.1<|
rt w2513.2
def r (s:aN) (a:Int) (b:Int):Bool×X:=g chk (fun x=>(true,x)) s a b
def D:aH:=Dof (P:=Tryz.prog) [dW.ent]
def tab:List (Nat×LE Res):= []
abbrev aS:List AS:= [.one (.val aV),.one (.val (.int .i64)),.one (.val (.int .i64))]
abbrev bS:List Ty:= []
def ent:Ent Tryz.prog:=bE (D:=D) (tab:=tab) hE0 (ay _) [true] Tryz.func45 (by kernel_rfl) aC aS bS res (fun x y=>r x.1 x.2.1 x.2.2.1) (fun x y=>g (fun c z=>req c z) (fun x=>some (res x)) x.1 x.2.1 x.2.2.1) (fun _ _=>by kernel_rfl) (by
 intro x y
 show J _ (g chk (fun x=>(true,x)) x.1 x.2.1 x.2.2.1) (g (fun c z=>req c z) (fun x=>some (res x)) x.1 x.2.1 x.2.2.1)
 unfold g
 with_reducible repeat (first|(apply J.lt; intro _)|apply J.rq|apply J.bif|exact J.rt rfl))
end iX
namespace dZ
abbrev X:Type:=Int
def res (x:Int):Res:=⟨[.val ⟨.int .i64,x⟩],[],[]⟩
abbrev sh0:List (Nat×Sh):= [(1,.p (.sl (.arr 4 (.int .u64)))),(2,.p (.int .i64)),(3,.pb 500000 aV []),(6,.p (.int .i64)),(7,.p (.int .i64)),(8,.p (.int .i64)),(9,.p (.int .i64))]
abbrev bx0:List (Nat×Ty):= [(500000,aV)]
abbrev aZ:List (Nat×Ty):= [(500000,aV)]
abbrev aY:List (Nat×Sh):= []
abbrev bf:List (Nat×Ty):= []
abbrev bW:List (Nat×Ty):= []
abbrev X0:Type:=(List (List Int))×Int×Unit×Int×Int×Int×Int×Unit
abbrev Y0:Type:=aN×Unit
abbrev U0:Type:=Unit
abbrev V0:Type:=Unit
def g0 {Z:Type} (rq:Bool→Z→Z) (kn:X0→Y0→Z) (ke:Nat→X0→Y0→Z) (kr:U0→V0→Z) (x:X0) (y:Y0):Z:=
lt (x.1.length:Int) fun (v2507:Int)=>
lt (ilt x.2.2.2.2.2.2.1 v2507) fun v2508=>
bif v2508 then
lt (x.1.getD x.2.2.2.2.2.2.1.toNat [0,0,0,0]) fun (v2509:(List Int))=>
rq (ile (0:Int) x.2.2.2.2.2.2.1&&ilt x.2.2.2.2.2.2.1 (x.1.length:Int))<|
lt (gJ.r v2509 y.1.1) fun w2510=>
rq w2510.1<|
lt (aI.r x.2.2.2.2.2.1) fun w2511=>
rq w2511.1<|
lt (bQ.r y.1 w2510.2 w2511.2) fun w2512=>
rq w2512.1<|
lt (iX.r y.1 x.2.2.2.2.1 w2512.2) fun w2514=>
rq w2514.1<|
lt (IntKind.i64.wrap (x.2.2.2.2.2.1*x.2.1)) fun v2515=>
lt (IntKind.i64.wrap (x.2.2.2.2.2.2.1+1)) fun v2516=>
kn (x.1,x.2.1,(),x.2.2.2.1,w2514.2,v2515,v2516,()) (y.1,())
else
ke 0 (x.1,x.2.1,(),x.2.2.2.1,x.2.2.2.2.1,x.2.2.2.2.2.1,x.2.2.2.2.2.2.1,()) (y.1,())
def fu0 (x:X0) (y:Y0):Nat:=((x.1.length:Int) - x.2.2.2.2.2.2.1).toNat+1
def l0 (x:X0) (y:Y0):Bool×Nat×X0×Y0×U0×V0:=rounds (fun rq kn ke kr x y=>g0 rq kn ke kr x y) () () (fu0 x y) x y
def g {Z:Type} (rq:Bool→Z→Z) (rt:X→Z) (s:aN) (c:(List (List Int))) (i:Int):Z:=
lt (dZ.l0 (c,i,(),0,1,1,0,()) (s,())) fun w2517=>
rq w2517.1<|
rt w2517.2.2.1.2.2.2.2.1
def r (s:aN) (c:(List (List Int))) (i:Int):Bool×X:=g chk (fun x=>(true,x)) s c i
def D:aH:=Dof (P:=Tryz.prog) [gJ.ent,aI.ent,bQ.ent,iX.ent]
abbrev lf0:=dh (R:=Res) [1] (rounds (fun rq kn ke kr x y=>g0 rq kn ke kr x y) () ()) fu0
def tab:List (Nat×LE Res):= [(4,.typed (eG 34 sh0 bx0 aZ aY bf (lf0)))]
theorem bT:Nonempty (Told E0 D tab Tryz.f18.ntmps (aF (codeOf Tryz.f18) 0) 34 sh0 bx0 aZ aY bf lf0):=fE (sh:=sh0) (bx:=bx0) (ord:=aZ) (shR:=aY) (bxR:=bf) bW (by kernel_rfl) (by kernel_rfl) (by kernel_rfl) [1] _ _ _ @g0 (fun _ _ _ _ _=>by kernel_rfl) (by
  intro _ _ _ _ _ _ _ h i k x y
  simp only [g0]
  with_reducible repeat (first|(apply J.lt; intro _)|apply J.rq|apply J.bif|exact h _ _|exact i _ (by decide) _ _|exact k (by decide) _ _))
theorem bU:fI E0 D tab Tryz.f18.ntmps (codeOf Tryz.f18):=bP (bs:= [aF (codeOf Tryz.f18) 0]) (by kernel_rfl) (aD (bO (by kernel_rfl) (bT)) aO)
abbrev aS:List AS:= [.one (.val aV),.one (.val (.sl (.arr 4 (.int .u64)))),.one (.val (.int .i64))]
abbrev bS:List Ty:= []
def ent:Ent Tryz.prog:=bE (D:=D) (tab:=tab) hE0 (ay _) [true] Tryz.func18 (by kernel_rfl) bU aS bS res (fun x y=>r x.1 x.2.1 x.2.2.1) (fun x y=>g (fun c z=>req c z) (fun x=>some (res x)) x.1 x.2.1 x.2.2.1) (fun _ _=>by kernel_rfl) (by
 intro x y
 show J _ (g chk (fun x=>(true,x)) x.1 x.2.1 x.2.2.1) (g (fun c z=>req c z) (fun x=>some (res x)) x.1 x.2.1 x.2.2.1)
 unfold g
 with_reducible repeat (first|(apply J.lt; intro _)|apply J.rq|apply J.bif|exact J.rt rfl))
end dZ
namespace aK
abbrev X:Type:=Bool
def res (x:Bool):Res:=⟨[.val ⟨.bool,x⟩],[],[]⟩
def brn (w:Bool×X):Brn Res:= .one w.1 (res w.2)
theorem cZ (w:Bool×X):(brn w).res=(w.1,res w.2):=rfl
def g {Z:Type} (rq:Bool→Z→Z) (rt:X→Z) (which:Int) (f:(List (List Int))) (n:(List Int)):Z:=
lt (f.length:Int) fun (v1:Int)=>
lt (ilt 9 v1) fun v2=>
bif v2 then
lt aJ.ro fun w1797=>
rq w1797.1<|
rt w1797.2
else
lt (cO.r which) fun w1798=>
rq w1798.1<|
lt (dH.r f w1798.2.2.1.2.1) fun w2356=>
rq w2356.1<|
lt (dV.r w2356.2) fun w2369=>
rq w2369.1<|
lt (n.getD 0 0) fun (v2370:Int)=>
lt (eB.r w1798.2.1 f v2370) fun w2371=>
rq w2371.1<|
lt (!w1798.2.2.2) fun (v2372:Bool)=>
bif v2372 then
rt false
else
lt (fU.r w1798.2.1 f) fun w2373=>
rq w2373.1<|
lt (aW.r w1798.2.2.1 f) fun w2393=>
rq w2393.1<|
lt (!(w2373.2== w2393.2)) fun (v2394:Bool)=>
bif v2394 then
rt false
else
lt (n.getD 1 0) fun (v2395:Int)=>
lt (eD.r w1798.2.1 f v2395) fun w2396=>
rq w2396.1<|
lt (n.getD 1 0) fun (v2397:Int)=>
lt (ilt v2397 0) fun v2398=>
bif v2398 then
lt (!(ieq (w2396.2.getD 0 0) 0&&(ieq (w2396.2.getD 1 0) 0&&(ieq (w2396.2.getD 2 0) 0&&(ieq (w2396.2.getD 3 0) 0&&true))))) fun (v2399:Bool)=>
bif v2399 then
rt false
else
lt (n.getD 0 0) fun (v2400:Int)=>
lt (ilt v2400 1) fun v2401=>
bif v2401 then
lt (w2371.2.1.length:Int) fun (v2402:Int)=>
lt (v2402== 0) fun (v2403:Bool)=>
bif v2403 then
lt (w2371.2.2== 1) fun (v2404:Bool)=>
bif v2404 then
lt aJ.ro fun w2405=>
rq w2405.1<|
rt w2405.2
else
rt false
else
rt false
else
lt (n.getD 0 0) fun (v2406:Int)=>
lt (ilt 7 v2406) fun v2407=>
bif v2407 then
lt (w2371.2.1.length:Int) fun (v2408:Int)=>
lt (v2408== 0) fun (v2409:Bool)=>
bif v2409 then
lt (w2371.2.2== 1) fun (v2410:Bool)=>
bif v2410 then
lt aJ.ro fun w2411=>
rq w2411.1<|
rt w2411.2
else
rt false
else
rt false
else
lt (w2369.2.length:Int) fun (v2412:Int)=>
lt (n.getD 0 0) fun (v2413:Int)=>
lt (ilt v2413 v2412) fun v2414=>
bif v2414 then
lt (w2371.2.1.length:Int) fun (v2415:Int)=>
lt (v2415== 0) fun (v2416:Bool)=>
bif v2416 then
lt (w2371.2.2== 1) fun (v2417:Bool)=>
bif v2417 then
lt aJ.ro fun w2418=>
rq w2418.1<|
rt w2418.2
else
rt false
else
rt false
else
lt (w2371.2.2== 0) fun (v2419:Bool)=>
bif v2419 then
lt (n.getD 0 0) fun (v2420:Int)=>
lt (cK.r w1798.2.2.1 w2369.2 v2420) fun w2447=>
rq w2447.1<|
lt (bD.r w2371.2.1 w2447.2) fun w2448=>
rq w2448.1<|
bif w2448.2 then
lt aJ.ro fun w2449=>
rq w2449.1<|
rt w2449.2
else
rt false
else
rt false
else
lt (n.getD 1 0) fun (v2450:Int)=>
lt (ilt 7 v2450) fun v2451=>
bif v2451 then
lt (!(ieq (w2396.2.getD 0 0) 0&&(ieq (w2396.2.getD 1 0) 0&&(ieq (w2396.2.getD 2 0) 0&&(ieq (w2396.2.getD 3 0) 0&&true))))) fun (v2452:Bool)=>
bif v2452 then
rt false
else
lt (n.getD 0 0) fun (v2453:Int)=>
lt (ilt v2453 1) fun v2454=>
bif v2454 then
lt (w2371.2.1.length:Int) fun (v2455:Int)=>
lt (v2455== 0) fun (v2456:Bool)=>
bif v2456 then
lt (w2371.2.2== 1) fun (v2457:Bool)=>
bif v2457 then
lt aJ.ro fun w2458=>
rq w2458.1<|
rt w2458.2
else
rt false
else
rt false
else
lt (n.getD 0 0) fun (v2459:Int)=>
lt (ilt 7 v2459) fun v2460=>
bif v2460 then
lt (w2371.2.1.length:Int) fun (v2461:Int)=>
lt (v2461== 0) fun (v2462:Bool)=>
bif v2462 then
lt (w2371.2.2== 1) fun (v2463:Bool)=>
bif v2463 then
lt aJ.ro fun w2464=>
rq w2464.1<|
rt w2464.2
else
rt false
else
rt false
else
lt (w2369.2.length:Int) fun (v2465:Int)=>
lt (n.getD 0 0) fun (v2466:Int)=>
lt (ilt v2466 v2465) fun v2467=>
bif v2467 then
lt (w2371.2.1.length:Int) fun (v2468:Int)=>
lt (v2468== 0) fun (v2469:Bool)=>
bif v2469 then
lt (w2371.2.2== 1) fun (v2470:Bool)=>
bif v2470 then
lt aJ.ro fun w2471=>
rq w2471.1<|
rt w2471.2
else
rt false
else
rt false
else
lt (w2371.2.2== 0) fun (v2472:Bool)=>
bif v2472 then
lt (n.getD 0 0) fun (v2473:Int)=>
lt (cK.r w1798.2.2.1 w2369.2 v2473) fun w2474=>
rq w2474.1<|
lt (bD.r w2371.2.1 w2474.2) fun w2475=>
rq w2475.1<|
bif w2475.2 then
lt aJ.ro fun w2476=>
rq w2476.1<|
rt w2476.2
else
rt false
else
rt false
else
lt (f.length:Int) fun (v2477:Int)=>
lt (ilt 7 v2477) fun v2478=>
bif v2478 then
lt (!(ieq (w2396.2.getD 0 0) 0&&(ieq (w2396.2.getD 1 0) 0&&(ieq (w2396.2.getD 2 0) 0&&(ieq (w2396.2.getD 3 0) 0&&true))))) fun (v2479:Bool)=>
bif v2479 then
rt false
else
lt (n.getD 0 0) fun (v2480:Int)=>
lt (ilt v2480 1) fun v2481=>
bif v2481 then
lt (w2371.2.1.length:Int) fun (v2482:Int)=>
lt (v2482== 0) fun (v2483:Bool)=>
bif v2483 then
lt (w2371.2.2== 1) fun (v2484:Bool)=>
bif v2484 then
lt aJ.ro fun w2485=>
rq w2485.1<|
rt w2485.2
else
rt false
else
rt false
else
lt (n.getD 0 0) fun (v2486:Int)=>
lt (ilt 7 v2486) fun v2487=>
bif v2487 then
lt (w2371.2.1.length:Int) fun (v2488:Int)=>
lt (v2488== 0) fun (v2489:Bool)=>
bif v2489 then
lt (w2371.2.2== 1) fun (v2490:Bool)=>
bif v2490 then
lt aJ.ro fun w2491=>
rq w2491.1<|
rt w2491.2
else
rt false
else
rt false
else
lt (w2369.2.length:Int) fun (v2492:Int)=>
lt (n.getD 0 0) fun (v2493:Int)=>
lt (ilt v2493 v2492) fun v2494=>
bif v2494 then
lt (w2371.2.1.length:Int) fun (v2495:Int)=>
lt (v2495== 0) fun (v2496:Bool)=>
bif v2496 then
lt (w2371.2.2== 1) fun (v2497:Bool)=>
bif v2497 then
lt aJ.ro fun w2498=>
rq w2498.1<|
rt w2498.2
else
rt false
else
rt false
else
lt (w2371.2.2== 0) fun (v2499:Bool)=>
bif v2499 then
lt (n.getD 0 0) fun (v2500:Int)=>
lt (cK.r w1798.2.2.1 w2369.2 v2500) fun w2501=>
rq w2501.1<|
lt (bD.r w2371.2.1 w2501.2) fun w2502=>
rq w2502.1<|
bif w2502.2 then
lt aJ.ro fun w2503=>
rq w2503.1<|
rt w2503.2
else
rt false
else
rt false
else
lt (n.getD 1 0) fun (v2504:Int)=>
lt (dZ.r w1798.2.2.1 f v2504) fun w2518=>
rq w2518.1<|
lt (bN.r w2518.2) fun w2519=>
rq w2519.1<|
lt (!(ieq (w2396.2.getD 0 0) (w2519.2.getD 0 0)&&(ieq (w2396.2.getD 1 0) (w2519.2.getD 1 0)&&(ieq (w2396.2.getD 2 0) (w2519.2.getD 2 0)&&(ieq (w2396.2.getD 3 0) (w2519.2.getD 3 0)&&true))))) fun (v2520:Bool)=>
bif v2520 then
rt false
else
lt (n.getD 0 0) fun (v2521:Int)=>
lt (ilt v2521 1) fun v2522=>
bif v2522 then
lt (w2371.2.1.length:Int) fun (v2523:Int)=>
lt (v2523== 0) fun (v2524:Bool)=>
bif v2524 then
lt (w2371.2.2== 1) fun (v2525:Bool)=>
bif v2525 then
lt aJ.ro fun w2526=>
rq w2526.1<|
rt w2526.2
else
rt false
else
rt false
else
lt (n.getD 0 0) fun (v2527:Int)=>
lt (ilt 7 v2527) fun v2528=>
bif v2528 then
lt (w2371.2.1.length:Int) fun (v2529:Int)=>
lt (v2529== 0) fun (v2530:Bool)=>
bif v2530 then
lt (w2371.2.2== 1) fun (v2531:Bool)=>
bif v2531 then
lt aJ.ro fun w2532=>
rq w2532.1<|
rt w2532.2
else
rt false
else
rt false
else
lt (w2369.2.length:Int) fun (v2533:Int)=>
lt (n.getD 0 0) fun (v2534:Int)=>
lt (ilt v2534 v2533) fun v2535=>
bif v2535 then
lt (w2371.2.1.length:Int) fun (v2536:Int)=>
lt (v2536== 0) fun (v2537:Bool)=>
bif v2537 then
lt (w2371.2.2== 1) fun (v2538:Bool)=>
bif v2538 then
lt aJ.ro fun w2539=>
rq w2539.1<|
rt w2539.2
else
rt false
else
rt false
else
lt (w2371.2.2== 0) fun (v2540:Bool)=>
bif v2540 then
lt (n.getD 0 0) fun (v2541:Int)=>
lt (cK.r w1798.2.2.1 w2369.2 v2541) fun w2542=>
rq w2542.1<|
lt (bD.r w2371.2.1 w2542.2) fun w2543=>
rq w2543.1<|
bif w2543.2 then
lt aJ.ro fun w2544=>
rq w2544.1<|
rt w2544.2
else
rt false
else
rt false
def r (which:Int) (f:(List (List Int))) (n:(List Int)):Bool×X:=g chk (fun x=>(true,x)) which f n
def D:aH:=Dof (P:=Tryz.prog) [aJ.nO,cO.ent,dH.ent,dV.ent,eB.ent,fU.ent,aW.ent,eD.ent,cK.ent,bD.ent,dZ.ent,bN.ent]
def tab:List (Nat×LE Res):= []
theorem run (which:Int) (f:(List (List Int))) (n:(List Int)):gQ E0 [true] D (iI E0 D tab 9) Tryz.f3 (codeOf Tryz.f3) [.val ⟨.int .i64,which⟩,.val ⟨.sl (.arr 4 (.int .u64)),f⟩,.val ⟨.arr 2 (.int .i64),n⟩] []=g (fun c z=>req c z) (fun x=>some (res x)) which f n:=by kernel_rfl
theorem rel (which:Int) (f:(List (List Int))) (n:(List Int)):J (fun w z=>z=some (res w)) (g chk (fun x=>(true,x)) which f n) (g (fun c z=>req c z) (fun x=>some (res x)) which f n):=by
 unfold g
 with_reducible repeat (first|(apply J.lt; intro _)|apply J.rq|apply J.bif|exact J.rt rfl)
theorem ok:nA Tryz.f3=true:=by kernel_rfl
abbrev aS:List AS:= [.one (.val (.int .i64)),.one (.val (.sl (.arr 4 (.int .u64)))),.one (.val (.arr 2 (.int .i64)))]
abbrev bS:List Ty:= []
def F (x:ASs aS) (y:Bs bS):Brn Res:=brn (r x.1 x.2.1 x.2.2.1)
theorem good (x:ASs aS) (y:Bs bS) (h:(F x y).res.1=true):Good Tryz.prog 3 (ASs.mk aS x) (Bs.mk bS y) (F x y).res.2:=
 fV hE0 (ay _) Tryz.func3 ok aC cZ (run x.1 x.2.1 x.2.2.1) (rel x.1 x.2.1 x.2.2.1) h
def ent:Ent Tryz.prog:=⟨3,shF aS bS F,bV good⟩
end aK
end Go.Own
