/- What functions compute, printed by wip/gen/gen2.py. -/
import Derived.Test.YtnighkkdmgmcnaaGreatG8
set_option linter.unusedVariables false
set_option linter.unusedSimpArgs false
set_option maxRecDepth 100000
noncomputable section
namespace Go.Own
open Go.Proofs Go.Proofs.YtnighkkdmgmcnaaGreat
namespace iT
abbrev X:Type:=Int
def res (x:Int):Res:=⟨[.val ⟨.int .i64,x⟩],[],[]⟩
def g {Z:Type} (rq:Bool→Z→Z) (rt:X→Z) (s:aK) (a:Int) (b:Int):Z:=
lt (dU.r a b s.1) fun w2375=>
rq w2375.1<|
rt w2375.2
def r (s:aK) (a:Int) (b:Int):Bool×X:=g chk (fun x=>(true,x)) s a b
def D:aH:=Dof (P:=Tryz.prog) [dU.ent]
def tab:List (Nat×LE Res):= []
abbrev aS:List AS:= [.one (.val bB),.one (.val (.int .i64)),.one (.val (.int .i64))]
abbrev bS:List Ty:= []
def ent:Ent Tryz.prog:=bH (D:=D) (tab:=tab) hE0 (ay _) [true] Tryz.func45 (by kernel_rfl) aC aS bS res (fun x y=>r x.1 x.2.1 x.2.2.1) (fun x y=>g (fun c z=>req c z) (fun x=>some (res x)) x.1 x.2.1 x.2.2.1) (fun _ _=>by kernel_rfl) (by
 intro x y
 show J _ (g chk (fun x=>(true,x)) x.1 x.2.1 x.2.2.1) (g (fun c z=>req c z) (fun x=>some (res x)) x.1 x.2.1 x.2.2.1)
 unfold g
 with_reducible repeat (first|(apply J.lt; intro _)|apply J.rq|apply J.bif|exact J.rt rfl))
end iT
namespace dW
abbrev X:Type:=Int
def res (x:Int):Res:=⟨[.val ⟨.int .i64,x⟩],[],[]⟩
abbrev sh0:List (Nat×Sh):= [(1,.p (.sl (.arr 4 (.int .u64)))),(2,.p (.int .i64)),(3,.pb 500000 bB []),(6,.p (.int .i64)),(7,.p (.int .i64)),(8,.p (.int .i64)),(9,.p (.int .i64))]
abbrev bx0:List (Nat×Ty):= [(500000,bB)]
abbrev aY:List (Nat×Ty):= [(500000,bB)]
abbrev aX:List (Nat×Sh):= []
abbrev aZ:List (Nat×Ty):= []
abbrev bX:List (Nat×Ty):= []
abbrev X0:Type:=(List (List Int))×Int×Unit×Int×Int×Int×Int×Unit
abbrev Y0:Type:=aK×Unit
abbrev U0:Type:=Unit
abbrev V0:Type:=Unit
def g0 {Z:Type} (rq:Bool→Z→Z) (kn:X0→Y0→Z) (ke:Nat→X0→Y0→Z) (kr:U0→V0→Z) (x:X0) (y:Y0):Z:=
lt (x.1.length:Int) fun (v1827:Int)=>
lt (ilt x.2.2.2.2.2.2.1 v1827) fun v1828=>
bif v1828 then
lt (x.1.getD x.2.2.2.2.2.2.1.toNat [0,0,0,0]) fun (v1829:(List Int))=>
rq (ile (0:Int) x.2.2.2.2.2.2.1&&ilt x.2.2.2.2.2.2.1 (x.1.length:Int))<|
lt (jg.r v1829 y.1.1) fun w2372=>
rq w2372.1<|
lt (aM.r x.2.2.2.2.2.1) fun w2373=>
rq w2373.1<|
lt (bQ.r y.1 w2372.2 w2373.2) fun w2374=>
rq w2374.1<|
lt (iT.r y.1 x.2.2.2.2.1 w2374.2) fun w2376=>
rq w2376.1<|
lt (IntKind.i64.wrap (x.2.2.2.2.2.1*x.2.1)) fun v2377=>
lt (IntKind.i64.wrap (x.2.2.2.2.2.2.1+1)) fun v2378=>
kn (x.1,x.2.1,(),x.2.2.2.1,w2376.2,v2377,v2378,()) (y.1,())
else
ke 0 (x.1,x.2.1,(),x.2.2.2.1,x.2.2.2.2.1,x.2.2.2.2.2.1,x.2.2.2.2.2.2.1,()) (y.1,())
def fu0 (x:X0) (y:Y0):Nat:=((x.1.length:Int) - x.2.2.2.2.2.2.1).toNat+1
def l0 (x:X0) (y:Y0):Bool×Nat×X0×Y0×U0×V0:=rounds (fun rq kn ke kr x y=>g0 rq kn ke kr x y) () () (fu0 x y) x y
def g {Z:Type} (rq:Bool→Z→Z) (rt:X→Z) (s:aK) (c:(List (List Int))) (i:Int):Z:=
lt (dW.l0 (c,i,(),0,1,1,0,()) (s,())) fun w2379=>
rq w2379.1<|
rt w2379.2.2.1.2.2.2.2.1
def r (s:aK) (c:(List (List Int))) (i:Int):Bool×X:=g chk (fun x=>(true,x)) s c i
def D:aH:=Dof (P:=Tryz.prog) [jg.ent,aM.ent,bQ.ent,iT.ent]
abbrev lf0:=dw (R:=Res) [1] (rounds (fun rq kn ke kr x y=>g0 rq kn ke kr x y) () ()) fu0
def tab:List (Nat×LE Res):= [(4,.typed (eY 34 sh0 bx0 aY aX aZ (lf0)))]
theorem bV:Nonempty (Told E0 D tab Tryz.f18.ntmps (aG (codeOf Tryz.f18) 0) 34 sh0 bx0 aY aX aZ lf0):=fH (sh:=sh0) (bx:=bx0) (ord:=aY) (shR:=aX) (bxR:=aZ) bX (by kernel_rfl) (by kernel_rfl) (by kernel_rfl) [1] _ _ _ @g0 (fun _ _ _ _ _=>by kernel_rfl) (by
  intro _ _ _ _ _ _ _ h i k x y
  simp only [g0]
  with_reducible repeat (first|(apply J.lt; intro _)|apply J.rq|apply J.bif|exact h _ _|exact i _ (by decide) _ _|exact k (by decide) _ _))
theorem bW:fQ E0 D tab Tryz.f18.ntmps (codeOf Tryz.f18):=bT (bs:= [aG (codeOf Tryz.f18) 0]) (by kernel_rfl) (aF (bP (by kernel_rfl) (bV)) aO)
abbrev aS:List AS:= [.one (.val bB),.one (.val (.sl (.arr 4 (.int .u64)))),.one (.val (.int .i64))]
abbrev bS:List Ty:= []
def ent:Ent Tryz.prog:=bH (D:=D) (tab:=tab) hE0 (ay _) [true] Tryz.func18 (by kernel_rfl) bW aS bS res (fun x y=>r x.1 x.2.1 x.2.2.1) (fun x y=>g (fun c z=>req c z) (fun x=>some (res x)) x.1 x.2.1 x.2.2.1) (fun _ _=>by kernel_rfl) (by
 intro x y
 show J _ (g chk (fun x=>(true,x)) x.1 x.2.1 x.2.2.1) (g (fun c z=>req c z) (fun x=>some (res x)) x.1 x.2.1 x.2.2.1)
 unfold g
 with_reducible repeat (first|(apply J.lt; intro _)|apply J.rq|apply J.bif|exact J.rt rfl))
end dW
namespace bI
abbrev X:Type:=Bool
def res (x:Bool):Res:=⟨[.val ⟨.bool,x⟩],[],[]⟩
def g {Z:Type} (rq:Bool→Z→Z) (rt:X→Z) (s:aK) (c:(List (List Int))) (xx:fC):Z:=
lt (aW.r xx.2.1) fun w1800=>
rq w1800.1<|
lt (aT.r s c) fun w1820=>
rq w1820.1<|
bif w1820.2 then
lt (ile 1 xx.1) fun v1821=>
bif v1821 then
lt (ile xx.1 7) fun v1822=>
bif v1822 then
bif w1800.2.2 then
lt (ilt w1800.2.1 s.2.1) fun v1823=>
bif v1823 then
lt (bQ.r s s.2.2.1 xx.2.1) fun w1824=>
rq w1824.1<|
lt (dW.r s c xx.1) fun w2380=>
rq w2380.1<|
lt (w1824.2== w2380.2) fun (v2381:Bool)=>
rt v2381
else
rt false
else
rt false
else
rt false
else
rt false
else
rt false
def r (s:aK) (c:(List (List Int))) (xx:fC):Bool×X:=g chk (fun x=>(true,x)) s c xx
def D:aH:=Dof (P:=Tryz.prog) [aW.ent,aT.ent,bQ.ent,dW.ent]
def tab:List (Nat×LE Res):= []
abbrev aS:List AS:= [.one (.val bB),.one (.val (.sl (.arr 4 (.int .u64)))),.one (.val iV)]
abbrev bS:List Ty:= []
def ent:Ent Tryz.prog:=bH (D:=D) (tab:=tab) hE0 (ay _) [true] Tryz.func22 (by kernel_rfl) aC aS bS res (fun x y=>r x.1 x.2.1 x.2.2.1) (fun x y=>g (fun c z=>req c z) (fun x=>some (res x)) x.1 x.2.1 x.2.2.1) (fun _ _=>by kernel_rfl) (by
 intro x y
 show J _ (g chk (fun x=>(true,x)) x.1 x.2.1 x.2.2.1) (g (fun c z=>req c z) (fun x=>some (res x)) x.1 x.2.1 x.2.2.1)
 unfold g
 with_reducible repeat (first|(apply J.lt; intro _)|apply J.rq|apply J.bif|exact J.rt rfl))
end bI
namespace bn
abbrev X:Type:=Bool
def res (x:Bool):Res:=⟨[.val ⟨.bool,x⟩],[],[]⟩
def brn (w:Bool×X):Brn Res:= .one w.1 (res w.2)
theorem cB (w:Bool×X):(brn w).res=(w.1,res w.2):=rfl
def g {Z:Type} (rq:Bool→Z→Z) (rt:X→Z) (which:Int) (c:(List (List Int))) (xx:fC):Z:=
lt (c.length:Int) fun (v1:Int)=>
lt (ilt 9 v1) fun v2=>
bif v2 then
lt eX.ro fun w1797=>
rq w1797.1<|
rt w1797.2
else
lt (cu.r which) fun w1798=>
rq w1798.1<|
bif w1798.2.2.2 then
lt (bZ.r w1798.2.1 c xx) fun w1799=>
rq w1799.1<|
lt (bI.r w1798.2.2.1 c xx) fun w2382=>
rq w2382.1<|
lt (w1799.2== w2382.2) fun (v2383:Bool)=>
bif v2383 then
lt eX.ro fun w2384=>
rq w2384.1<|
rt w2384.2
else
rt false
else
rt false
def r (which:Int) (c:(List (List Int))) (xx:fC):Bool×X:=g chk (fun x=>(true,x)) which c xx
def D:aH:=Dof (P:=Tryz.prog) [eX.nO,cu.ent,bZ.ent,bI.ent]
def tab:List (Nat×LE Res):= []
theorem run (which:Int) (c:(List (List Int))) (xx:fC):gL E0 [true] D (iG E0 D tab 9) Tryz.f4 (codeOf Tryz.f4) [.val ⟨.int .i64,which⟩,.val ⟨.sl (.arr 4 (.int .u64)),c⟩,.val ⟨iV,xx⟩] []=g (fun c z=>req c z) (fun x=>some (res x)) which c xx:=by kernel_rfl
theorem rel (which:Int) (c:(List (List Int))) (xx:fC):J (fun w z=>z=some (res w)) (g chk (fun x=>(true,x)) which c xx) (g (fun c z=>req c z) (fun x=>some (res x)) which c xx):=by
 unfold g
 with_reducible repeat (first|(apply J.lt; intro _)|apply J.rq|apply J.bif|exact J.rt rfl)
theorem ok:nA Tryz.f4=true:=by kernel_rfl
abbrev aS:List AS:= [.one (.val (.int .i64)),.one (.val (.sl (.arr 4 (.int .u64)))),.one (.val iV)]
abbrev bS:List Ty:= []
def F (x:ASs aS) (y:Bs bS):Brn Res:=brn (r x.1 x.2.1 x.2.2.1)
theorem good (x:ASs aS) (y:Bs bS) (h:(F x y).res.1=true):Good Tryz.prog 4 (ASs.mk aS x) (Bs.mk bS y) (F x y).res.2:=
 fP hE0 (ay _) Tryz.func4 ok aC cB (run x.1 x.2.1 x.2.2.1) (rel x.1 x.2.1 x.2.2.1) h
def ent:Ent Tryz.prog:=⟨4,shF aS bS F,bM good⟩
end bn
end Go.Own
