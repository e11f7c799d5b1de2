/- What functions compute, printed by wip/gen/gen2.py. -/
import Derived.Test.YtapkilfcibkphaaGreatG4
set_option linter.unusedVariables false
set_option linter.unusedSimpArgs false
set_option maxRecDepth 100000
noncomputable section
namespace Go.Own
open Go.Proofs Go.Proofs.YtapkilfcibkphaaGreat
namespace gq
abbrev X:Type:=(List bQ)×Int
def res (x:(List bQ)×Int):Res:=⟨[.val ⟨.sl fJ,x.1⟩,.val ⟨.int .i64,x.2⟩],[],[]⟩
def brn (w:Bool×X):Brn Res:= .one w.1 (res w.2)
theorem dA (w:Bool×X):(brn w).res=(w.1,res w.2):=rfl
abbrev sh0:List (Nat×Sh):= [(0,.p (.ref au)),(1,.p (.sl (.arr 4 (.int .u64)))),(6,.nil),(7,.p (.int .i64)),(8,.va 500000 fJ),(21,.p (.int .i64)),(22,.p (.int .i64))]
abbrev bx0:List (Nat×Ty):= [(500000,.dyn fJ)]
abbrev aZ:List (Nat×Ty):= [(500000,.dyn fJ)]
abbrev aY:List (Nat×Sh):= []
abbrev bf:List (Nat×Ty):= []
abbrev bU:List (Nat×Ty):= []
abbrev X0:Type:=(Option aj)×(List (List Int))×Unit×Int×Unit×Int×Int×Unit
abbrev Y0:Type:=(Bool×List bQ)×Unit
abbrev U0:Type:=Unit
abbrev V0:Type:=Unit
def g0 {Z:Type} (rq:Bool→Z→Z) (kn:X0→Y0→Z) (ke:Nat→X0→Y0→Z) (kr:U0→V0→Z) (x:X0) (y:Y0):Z:=
lt (ilt x.2.2.2.2.2.2.1 x.2.2.2.2.2.1) fun v1233=>
bif v1233 then
lt (IntKind.i64.wrap (x.2.2.2.2.2.2.1+1)) fun v1234=>
lt (IntKind.i64.wrap (x.2.2.2.2.2.2.1+1)) fun v1235=>
lt (dY.r v1235) fun w1236=>
rq w1236.1<|
lt (iU.r x.1 x.2.1 w1236.2) fun w1237=>
rq w1237.1<|
lt (y.1.1&&false) fun (v1238:Bool)=>
lt (y.1.2++ [(v1234,(w1237.2,()))]) fun (v1239:(List bQ))=>
rq (nle ((2*(y.1.2.length+1)+512)*40) 70368744177664)<|
lt (IntKind.i64.wrap (x.2.2.2.2.2.2.1+1)) fun v1240=>
kn (x.1,x.2.1,(),x.2.2.2.1,(),x.2.2.2.2.2.1,v1240,()) ((v1238,v1239),())
else
ke 0 (x.1,x.2.1,(),x.2.2.2.1,(),x.2.2.2.2.2.1,x.2.2.2.2.2.2.1,()) (y.1,())
def fu0 (x:X0) (y:Y0):Nat:=(x.2.2.2.2.2.1 - x.2.2.2.2.2.2.1).toNat+1
def l0 (x:X0) (y:Y0):Bool×Nat×X0×Y0×U0×V0:=rounds (fun rq kn ke kr x y=>g0 rq kn ke kr x y) () () (fu0 x y) x y
def g {Z:Type} (rq:Bool→Z→Z) (rt:X→Z) (gx:(Option aj)) (f:(List (List Int))) (n:Int):Z:=
lt (bH.r gx) fun w1230=>
rq w1230.1<|
bif w1230.2.isNone then
rt ([],1)
else
lt (ilt n 1) fun v1231=>
bif v1231 then
rt ([],1)
else
lt (ilt 7 n) fun v1232=>
bif v1232 then
rt ([],1)
else
lt (gq.l0 (gx,f,(),0,(),n,0,()) ((true,[]),())) fun w1241=>
rq w1241.1<|
rt (w1241.2.2.2.1.1.2,0)
def r (gx:(Option aj)) (f:(List (List Int))) (n:Int):Bool×X:=g chk (fun x=>(true,x)) gx f n
def D:aI:=Dof (P:=Tryz.prog) [bH.ent,dY.ent,iU.ent]
abbrev lf0:=bY (R:=Res) [1] (rounds (fun rq kn ke kr x y=>g0 rq kn ke kr x y) () ()) fu0
def tab:List (Nat×LE Res):= [(6,.typed (eB 39 sh0 bx0 aZ aY bf (lf0)))]
theorem run (gx:(Option aj)) (f:(List (List Int))) (n:Int):iD E0 [true,true] D (iR E0 D tab 9) Tryz.f7 (codeOf Tryz.f7) [.val ⟨.ref au,gx⟩,.val ⟨.sl (.arr 4 (.int .u64)),f⟩,.val ⟨.int .i64,n⟩] []=g (fun c z=>req c z) (fun x=>some (res x)) gx f n:=by kernel_rfl
theorem rel (gx:(Option aj)) (f:(List (List Int))) (n:Int):J (fun w z=>z=some (res w)) (g chk (fun x=>(true,x)) gx f n) (g (fun c z=>req c z) (fun x=>some (res x)) gx f n):=by
 unfold g
 with_reducible repeat (first|(apply J.lt; intro _)|apply J.rq|apply J.bif|exact J.rt rfl)
theorem bR:Nonempty (Told E0 D tab Tryz.f7.ntmps (aF (codeOf Tryz.f7) 0) 39 sh0 bx0 aZ aY bf lf0):=eX (sh:=sh0) (bx:=bx0) (ord:=aZ) (shR:=aY) (bxR:=bf) bU (by kernel_rfl) (by kernel_rfl) (by kernel_rfl) [1] _ _ _ @g0 (fun _ _ _ _ _=>by kernel_rfl) (by
  intro _ _ _ _ _ _ _ h i k x y
  simp only [g0]
  with_reducible repeat (first|(apply J.lt; intro _)|apply J.rq|apply J.bif|exact h _ _|exact i _ (by decide) _ _|exact k (by decide) _ _))
theorem bT:fF E0 D tab Tryz.f7.ntmps (codeOf Tryz.f7):=bN (bs:= [aF (codeOf Tryz.f7) 0]) (by kernel_rfl) (aD (bI (by kernel_rfl) (bR)) aL)
theorem ok:oq Tryz.f7=true:=by kernel_rfl
abbrev aS:List AS:= [.one (.val (.ref au)),.one (.val (.sl (.arr 4 (.int .u64)))),.one (.val (.int .i64))]
abbrev bS:List Ty:= []
def F (x:ASs aS) (y:Bs bS):Brn Res:=brn (r x.1 x.2.1 x.2.2.1)
theorem good (x:ASs aS) (y:Bs bS) (h:(F x y).res.1=true):Good Tryz.prog 7 (ASs.mk aS x) (Bs.mk bS y) (F x y).res.2:=
 fZ hE0 (ay _) Tryz.func7 ok bT dA (run x.1 x.2.1 x.2.2.1) (rel x.1 x.2.1 x.2.2.1) h
def ent:Ent Tryz.prog:=⟨7,shF aS bS F,bX good⟩
def ro:(Option aj)→(List (List Int))→Int→Bool×X:=Classical.choose (⟨r,rfl⟩:∃ q:(Option aj)→(List (List Int))→Int→Bool×X,q=r)
theorem gI:ro=r:=Classical.choose_spec (⟨r,rfl⟩:∃ q:(Option aj)→(List (List Int))→Int→Bool×X,q=r)
def FO (x:ASs aS) (y:Bs bS):Brn Res:=brn (ro x.1 x.2.1 x.2.2.1)
theorem kR:FO=F:=by unfold FO F; rw [gI]
def oC:Ent Tryz.prog:=⟨7,shF aS bS FO,bX (by rw [kR]; exact good)⟩
end gq
namespace cK
abbrev X:Type:=Bool
def res (x:Bool):Res:=⟨[.val ⟨.bool,x⟩],[],[]⟩
def brn (w:Bool×X):Brn Res:= .one w.1 (res w.2)
theorem dA (w:Bool×X):(brn w).res=(w.1,res w.2):=rfl
abbrev sh0:List (Nat×Sh):= [(0,.p (.sl fJ)),(1,.p (.sl fJ)),(4,.p .bool),(5,.p (.int .i64))]
abbrev bx0:List (Nat×Ty):= []
abbrev aZ:List (Nat×Ty):= []
abbrev aY:List (Nat×Sh):= [(4,.p .bool)]
abbrev bf:List (Nat×Ty):= []
abbrev bU:List (Nat×Ty):= []
abbrev X0:Type:=(List bQ)×(List bQ)×Bool×Int×Unit
abbrev Y0:Type:=Unit
abbrev U0:Type:=Bool×Unit
abbrev V0:Type:=Unit
def g0 {Z:Type} (rq:Bool→Z→Z) (kn:X0→Y0→Z) (ke:Nat→X0→Y0→Z) (kr:U0→V0→Z) (x:X0) (y:Y0):Z:=
lt (x.1.length:Int) fun (v1253:Int)=>
lt (ilt x.2.2.2.1 v1253) fun v1254=>
bif v1254 then
lt (x.1.getD x.2.2.2.1.toNat (0,([0,0,0,0],()))) fun (v1255:bQ)=>
rq (ile (0:Int) x.2.2.2.1&&ilt x.2.2.2.1 (x.1.length:Int))<|
lt (x.2.1.getD x.2.2.2.1.toNat (0,([0,0,0,0],()))) fun (v1256:bQ)=>
rq (ile (0:Int) x.2.2.2.1&&ilt x.2.2.2.1 (x.2.1.length:Int))<|
lt (!(ieq v1255.1 v1256.1&&((ieq (v1255.2.1.getD 0 0) (v1256.2.1.getD 0 0)&&(ieq (v1255.2.1.getD 1 0) (v1256.2.1.getD 1 0)&&(ieq (v1255.2.1.getD 2 0) (v1256.2.1.getD 2 0)&&(ieq (v1255.2.1.getD 3 0) (v1256.2.1.getD 3 0)&&true))))&&true))) fun (v1257:Bool)=>
bif v1257 then
kr (false,()) ()
else
lt (IntKind.i64.wrap (x.2.2.2.1+1)) fun v1258=>
kn (x.1,x.2.1,x.2.2.1,v1258,()) ()
else
ke 0 (x.1,x.2.1,x.2.2.1,x.2.2.2.1,()) ()
def fu0 (x:X0) (y:Y0):Nat:=((x.1.length:Int) - x.2.2.2.1).toNat+1
def l0 (x:X0) (y:Y0):Bool×Nat×X0×Y0×U0×V0:=rounds (fun rq kn ke kr x y=>g0 rq kn ke kr x y) (false,()) () (fu0 x y) x y
def g {Z:Type} (rq:Bool→Z→Z) (rt:X→Z) (a:(List bQ)) (b:(List bQ)):Z:=
lt (a.length:Int) fun (v1248:Int)=>
lt (b.length:Int) fun (v1249:Int)=>
lt (v1248 != v1249) fun (v1250:Bool)=>
bif v1250 then
rt false
else
lt (cK.l0 (a,b,false,0,()) ()) fun w1259=>
rq w1259.1<|
bif Nat.beq w1259.2.1 0 then
rt w1259.2.2.2.2.1.1
else
rt true
def r (a:(List bQ)) (b:(List bQ)):Bool×X:=g chk (fun x=>(true,x)) a b
def D:aI:=Dof (P:=Tryz.prog) []
abbrev lf0:=bY (R:=Res) [0,1] (rounds (fun rq kn ke kr x y=>g0 rq kn ke kr x y) (false,()) ()) fu0
def tab:List (Nat×LE Res):= [(5,.typed (eB 26 sh0 bx0 aZ aY bf (lf0)))]
theorem run (a:(List bQ)) (b:(List bQ)):iD E0 [true] D (iR E0 D tab 9) Tryz.f19 (codeOf Tryz.f19) [.val ⟨.sl fJ,a⟩,.val ⟨.sl fJ,b⟩] []=g (fun c z=>req c z) (fun x=>some (res x)) a b:=by kernel_rfl
theorem rel (a:(List bQ)) (b:(List bQ)):J (fun w z=>z=some (res w)) (g chk (fun x=>(true,x)) a b) (g (fun c z=>req c z) (fun x=>some (res x)) a b):=by
 unfold g
 with_reducible repeat (first|(apply J.lt; intro _)|apply J.rq|apply J.bif|exact J.rt rfl)
theorem bR:Nonempty (Told E0 D tab Tryz.f19.ntmps (aF (codeOf Tryz.f19) 0) 26 sh0 bx0 aZ aY bf lf0):=eX (sh:=sh0) (bx:=bx0) (ord:=aZ) (shR:=aY) (bxR:=bf) bU (by kernel_rfl) (by kernel_rfl) (by kernel_rfl) [0,1] _ _ _ @g0 (fun _ _ _ _ _=>by kernel_rfl) (by
  intro _ _ _ _ _ _ _ h i k x y
  simp only [g0]
  with_reducible repeat (first|(apply J.lt; intro _)|apply J.rq|apply J.bif|exact h _ _|exact i _ (by decide) _ _|exact k (by decide) _ _))
theorem bT:fF E0 D tab Tryz.f19.ntmps (codeOf Tryz.f19):=bN (bs:= [aF (codeOf Tryz.f19) 0]) (by kernel_rfl) (aD (bI (by kernel_rfl) (bR)) aL)
theorem ok:oq Tryz.f19=true:=by kernel_rfl
abbrev aS:List AS:= [.one (.val (.sl fJ)),.one (.val (.sl fJ))]
abbrev bS:List Ty:= []
def F (x:ASs aS) (y:Bs bS):Brn Res:=brn (r x.1 x.2.1)
theorem good (x:ASs aS) (y:Bs bS) (h:(F x y).res.1=true):Good Tryz.prog 19 (ASs.mk aS x) (Bs.mk bS y) (F x y).res.2:=
 fZ hE0 (ay _) Tryz.func19 ok bT dA (run x.1 x.2.1) (rel x.1 x.2.1) h
def ent:Ent Tryz.prog:=⟨19,shF aS bS F,bX good⟩
def ro:(List bQ)→(List bQ)→Bool×X:=Classical.choose (⟨r,rfl⟩:∃ q:(List bQ)→(List bQ)→Bool×X,q=r)
theorem gI:ro=r:=Classical.choose_spec (⟨r,rfl⟩:∃ q:(List bQ)→(List bQ)→Bool×X,q=r)
def FO (x:ASs aS) (y:Bs bS):Brn Res:=brn (ro x.1 x.2.1)
theorem kR:FO=F:=by unfold FO F; rw [gI]
def oC:Ent Tryz.prog:=⟨19,shF aS bS FO,bX (by rw [kR]; exact good)⟩
end cK
namespace fG
abbrev X:Type:=Bool×Int
def res (x:Bool×Int):Res:=⟨[.val ⟨.bool,x.1⟩],[some ⟨.int .i64,x.2⟩],[]⟩
def g {Z:Type} (rq:Bool→Z→Z) (rt:X→Z) (xx:Int) (b:Int):Z:=
lt (ilt xx b) fun v1288=>
bif v1288 then
rt (true,b)
else
lt (ilt 7 xx) fun v1289=>
rt (v1289,b)
def r (xx:Int) (b:Int):Bool×X:=g chk (fun x=>(true,x)) xx b
def D:aI:=Dof (P:=Tryz.prog) []
def tab:List (Nat×LE Res):= []
abbrev aS:List AS:= [.one (.val (.int .i64)),.one (.pb 1000000 (.int .i64) [])]
abbrev bS:List Ty:= [.int .i64]
def ent:Ent Tryz.prog:=bO (D:=D) (tab:=tab) hE0 (ay _) [true] Tryz.func54 (by kernel_rfl) aG aS bS res (fun x y=>r x.1 y.1) (fun x y=>g (fun c z=>req c z) (fun x=>some (res x)) x.1 y.1) (fun _ _=>by kernel_rfl) (by
 intro x y
 show J _ (g chk (fun x=>(true,x)) x.1 y.1) (g (fun c z=>req c z) (fun x=>some (res x)) x.1 y.1)
 unfold g
 with_reducible repeat (first|(apply J.lt; intro _)|apply J.rq|apply J.bif|exact J.rt rfl))
end fG
namespace aM
abbrev X:Type:=Int×Int
def res (x:Int×Int):Res:=⟨[.val ⟨.int .i64,x.1⟩],[some ⟨.int .i64,x.2⟩],[]⟩
abbrev sh0:List (Nat×Sh):= [(0,.p (.sl (.int .i64))),(1,.clo 54 [(1000000,.int .i64)]),(4,.p (.int .i64)),(7,.p (.int .i64)),(8,.p (.int .i64))]
abbrev bx0:List (Nat×Ty):= [(1000000,.int .i64)]
abbrev aZ:List (Nat×Ty):= [(1000000,.int .i64)]
abbrev aY:List (Nat×Sh):= [(4,.p (.int .i64))]
abbrev bf:List (Nat×Ty):= [(1000000,.int .i64)]
abbrev bU:List (Nat×Ty):= [(1000000,.int .i64)]
abbrev X0:Type:=(List Int)×Unit×Int×Int×Int×Unit
abbrev Y0:Type:=Int×Unit
abbrev U0:Type:=Int×Unit
abbrev V0:Type:=Int×Unit
def g0 {Z:Type} (rq:Bool→Z→Z) (kn:X0→Y0→Z) (ke:Nat→X0→Y0→Z) (kr:U0→V0→Z) (x:X0) (y:Y0):Z:=
lt (ilt x.2.2.2.2.1 x.2.2.2.1) fun v1286=>
bif v1286 then
lt (x.1.getD x.2.2.2.2.1.toNat 0) fun (v1287:Int)=>
rq (ile (0:Int) x.2.2.2.2.1&&ilt x.2.2.2.2.1 (x.1.length:Int))<|
lt (fG.r v1287 y.1) fun w1290=>
rq w1290.1<|
bif w1290.2.1 then
kr (x.2.2.2.2.1,()) (w1290.2.2,())
else
lt (IntKind.i64.wrap (x.2.2.2.2.1+1)) fun v1291=>
kn (x.1,(),x.2.2.1,x.2.2.2.1,v1291,()) (w1290.2.2,())
else
ke 0 (x.1,(),x.2.2.1,x.2.2.2.1,x.2.2.2.2.1,()) (y.1,())
def fu0 (x:X0) (y:Y0):Nat:=(x.2.2.2.1 - x.2.2.2.2.1).toNat+1
def l0 (x:X0) (y:Y0):Bool×Nat×X0×Y0×U0×V0:=rounds (fun rq kn ke kr x y=>g0 rq kn ke kr x y) (0,()) (0,()) (fu0 x y) x y
def g {Z:Type} (rq:Bool→Z→Z) (rt:X→Z) (s:(List Int)) (b:Int):Z:=
lt (s.length:Int) fun (v1284:Int)=>
lt (aM.l0 (s,(),0,v1284,0,()) (b,())) fun w1292=>
rq w1292.1<|
bif Nat.beq w1292.2.1 0 then
rt (w1292.2.2.2.2.1.1,w1292.2.2.2.2.2.1)
else
rt ((-1),w1292.2.2.2.1.1)
def r (s:(List Int)) (b:Int):Bool×X:=g chk (fun x=>(true,x)) s b
def D:aI:=Dof (P:=Tryz.prog) [fG.ent]
abbrev lf0:=bY (R:=Res) [0,1] (rounds (fun rq kn ke kr x y=>g0 rq kn ke kr x y) (0,()) (0,())) fu0
def tab:List (Nat×LE Res):= [(3,.typed (eB 19 sh0 bx0 aZ aY bf (lf0)))]
theorem bR:Nonempty (Told E0 D tab Tryz.f84.ntmps (aF (codeOf Tryz.f84) 0) 19 sh0 bx0 aZ aY bf lf0):=eX (sh:=sh0) (bx:=bx0) (ord:=aZ) (shR:=aY) (bxR:=bf) bU (by kernel_rfl) (by kernel_rfl) (by kernel_rfl) [0,1] _ _ _ @g0 (fun _ _ _ _ _=>by kernel_rfl) (by
  intro _ _ _ _ _ _ _ h i k x y
  simp only [g0]
  with_reducible repeat (first|(apply J.lt; intro _)|apply J.rq|apply J.bif|exact h _ _|exact i _ (by decide) _ _|exact k (by decide) _ _))
theorem bT:fF E0 D tab Tryz.f84.ntmps (codeOf Tryz.f84):=bN (bs:= [aF (codeOf Tryz.f84) 0]) (by kernel_rfl) (aD (bI (by kernel_rfl) (bR)) aL)
abbrev aS:List AS:= [.one (.val (.sl (.int .i64))),.clo 54 [.pb 1000000 (.int .i64) []]]
abbrev bS:List Ty:= [.int .i64]
def ent:Ent Tryz.prog:=bO (D:=D) (tab:=tab) hE0 (ay _) [true] Tryz.func84 (by kernel_rfl) bT aS bS res (fun x y=>r x.1 y.1) (fun x y=>g (fun c z=>req c z) (fun x=>some (res x)) x.1 y.1) (fun _ _=>by kernel_rfl) (by
 intro x y
 show J _ (g chk (fun x=>(true,x)) x.1 y.1) (g (fun c z=>req c z) (fun x=>some (res x)) x.1 y.1)
 unfold g
 with_reducible repeat (first|(apply J.lt; intro _)|apply J.rq|apply J.bif|exact J.rt rfl))
end aM
namespace dN
abbrev X:Type:=Bool×Int
def res (x:Bool×Int):Res:=⟨[.val ⟨.bool,x.1⟩],[some ⟨.int .i64,x.2⟩],[]⟩
def g {Z:Type} (rq:Bool→Z→Z) (rt:X→Z) (s:(List Int)) (b:Int):Z:=
lt (aM.r s b) fun w1293=>
rq w1293.1<|
lt (ile 0 w1293.2.1) fun v1294=>
rt (v1294,w1293.2.2)
def r (s:(List Int)) (b:Int):Bool×X:=g chk (fun x=>(true,x)) s b
def D:aI:=Dof (P:=Tryz.prog) [aM.ent]
def tab:List (Nat×LE Res):= []
abbrev aS:List AS:= [.one (.val (.sl (.int .i64))),.clo 54 [.pb 1000000 (.int .i64) []]]
abbrev bS:List Ty:= [.int .i64]
def ent:Ent Tryz.prog:=bO (D:=D) (tab:=tab) hE0 (ay _) [true] Tryz.func53 (by kernel_rfl) aG aS bS res (fun x y=>r x.1 y.1) (fun x y=>g (fun c z=>req c z) (fun x=>some (res x)) x.1 y.1) (fun _ _=>by kernel_rfl) (by
 intro x y
 show J _ (g chk (fun x=>(true,x)) x.1 y.1) (g (fun c z=>req c z) (fun x=>some (res x)) x.1 y.1)
 unfold g
 with_reducible repeat (first|(apply J.lt; intro _)|apply J.rq|apply J.bif|exact J.rt rfl))
end dN
namespace gB
abbrev X:Type:=Bool
def res (x:Bool):Res:=⟨[.val ⟨.bool,x⟩],[],[]⟩
def g {Z:Type} (rq:Bool→Z→Z) (rt:X→Z) (l:(List Int)) (least:Int):Z:=
lt (dN.r l least) fun w1295=>
rq w1295.1<|
rt w1295.2.1
def r (l:(List Int)) (least:Int):Bool×X:=g chk (fun x=>(true,x)) l least
def D:aI:=Dof (P:=Tryz.prog) [dN.ent]
def tab:List (Nat×LE Res):= []
abbrev aS:List AS:= [.one (.val (.sl (.int .i64))),.one (.val (.int .i64))]
abbrev bS:List Ty:= []
def ent:Ent Tryz.prog:=bO (D:=D) (tab:=tab) hE0 (ay _) [true] Tryz.func31 (by kernel_rfl) aG aS bS res (fun x y=>r x.1 x.2.1) (fun x y=>g (fun c z=>req c z) (fun x=>some (res x)) x.1 x.2.1) (fun _ _=>by kernel_rfl) (by
 intro x y
 show J _ (g chk (fun x=>(true,x)) x.1 x.2.1) (g (fun c z=>req c z) (fun x=>some (res x)) x.1 x.2.1)
 unfold g
 with_reducible repeat (first|(apply J.lt; intro _)|apply J.rq|apply J.bif|exact J.rt rfl))
end gB
namespace fM
abbrev X:Type:=(Bool×List Int)
def res (x:(Bool×List Int)):Res:=⟨[.va 1000000 (.int .i64)],[],[⟨.dyn (.int .i64),x⟩]⟩
def brn (w:Bool×X):Brn Res:= .one w.1 (res w.2)
theorem dA (w:Bool×X):(brn w).res=(w.1,res w.2):=rfl
def g {Z:Type} (rq:Bool→Z→Z) (rt:X→Z) (s:(List Int)):Z:=
rq (!s.isEmpty)<|
rq (nle ((2*(0+s.length)+512)*8) 70368744177664)<|
rt (false,s)
def r (s:(List Int)):Bool×X:=g chk (fun x=>(true,x)) s
def D:aI:=Dof (P:=Tryz.prog) []
def tab:List (Nat×LE Res):= []
theorem run (s:(List Int)):iD E0 [false] D (iR E0 D tab 9) Tryz.f55 (codeOf Tryz.f55) [.val ⟨.sl (.int .i64),s⟩] []=g (fun c z=>req c z) (fun x=>some (res x)) s:=by kernel_rfl
theorem rel (s:(List Int)):J (fun w z=>z=some (res w)) (g chk (fun x=>(true,x)) s) (g (fun c z=>req c z) (fun x=>some (res x)) s):=by
 unfold g
 with_reducible repeat (first|(apply J.lt; intro _)|apply J.rq|apply J.bif|exact J.rt rfl)
theorem ok:oq Tryz.f55=true:=by kernel_rfl
abbrev aS:List AS:= [.one (.val (.sl (.int .i64)))]
abbrev bS:List Ty:= []
def F (x:ASs aS) (y:Bs bS):Brn Res:=brn (r x.1)
theorem good (x:ASs aS) (y:Bs bS) (h:(F x y).res.1=true):Good Tryz.prog 55 (ASs.mk aS x) (Bs.mk bS y) (F x y).res.2:=
 fZ hE0 (ay _) Tryz.func55 ok aG dA (run x.1) (rel x.1) h
def ent:Ent Tryz.prog:=⟨55,shF aS bS F,bX good⟩
theorem SH (ad:Option Addr) (cap:Nat) (w:World):(Go.binOp .eql 34 (.slice ad 0 cap) (.slice none 0 0)).run Tryz.prog w= .ok (.bool ad.isNone) w:=by cases ad<;>kernel_rfl
theorem empty (ad:Option Addr) (cap:Nat) (w:World):Calls Tryz.prog 55 #[.slice ad 0 cap] w fun e w2=>(∃ ad2 cap2,e= .returned (.slice ad2 0 cap2))∧kz w w2:=by
 cases ad with
 |none=>
  go_enter Tryz.func55,Tryz.ntmps55
  go_wp2
  rw [SH]
  go_wp2
  go_ret
  exact ⟨⟨_,_,rfl⟩,kz.refl _⟩
 |some ad=>
  go_enter Tryz.func55,Tryz.ntmps55
  go_wp2
  rw [SH]
  go_wp2
  go_ret
  exact ⟨⟨_,_,rfl⟩,kz.alloc _ _⟩
def Vl:Ent Tryz.prog:=⟨55,shF [.one (.val (.sl (.int .i64)))] [] (JR (.int .i64) F),bX (H6 (zl Tryz.func55 (by kernel_rfl) (by kernel_rfl) (by decide) empty) good)⟩
end fM
namespace gV
abbrev X:Type:=(List Int)
def res (x:(List Int)):Res:=⟨[.val ⟨.sl (.int .i64),x⟩],[],[]⟩
abbrev sh1:List (Nat×Sh):= [(0,.p (.sl (.int .i64))),(2,.nil),(3,.p (.int .i64)),(4,.p (.sl (.int .i64))),(5,.p (.int .i64))]
abbrev bx1:List (Nat×Ty):= []
abbrev kI:List (Nat×Ty):= []
abbrev kH:List (Nat×Sh):= []
abbrev kN:List (Nat×Ty):= []
abbrev nZ:List (Nat×Ty):= []
abbrev X1:Type:=(List Int)×Unit×Int×(List Int)×Int×Unit
abbrev Y1:Type:=Unit
abbrev U1:Type:=Unit
abbrev V1:Type:=Unit
def g1 {Z:Type} (rq:Bool→Z→Z) (kn:X1→Y1→Z) (ke:Nat→X1→Y1→Z) (kr:U1→V1→Z) (x:X1) (y:Y1):Z:=
lt (x.2.2.2.1.length:Int) fun (v1310:Int)=>
lt (ilt x.2.2.2.2.1 v1310) fun v1311=>
bif v1311 then
lt (x.2.2.2.1.getD x.2.2.2.2.1.toNat 0) fun (v1312:Int)=>
rq (ile (0:Int) x.2.2.2.2.1&&ilt x.2.2.2.2.1 (x.2.2.2.1.length:Int))<|
lt (IntKind.i64.wrap (x.2.2.2.2.1 - 1)) fun v1313=>
lt (x.2.2.2.1.getD v1313.toNat 0) fun (v1314:Int)=>
rq (ile (0:Int) v1313&&ilt v1313 (x.2.2.2.1.length:Int))<|
lt (v1312 != v1314) fun (v1315:Bool)=>
bif v1315 then
lt (x.2.2.2.1.getD x.2.2.2.2.1.toNat 0) fun (v1316:Int)=>
rq (ile (0:Int) x.2.2.2.2.1&&ilt x.2.2.2.2.1 (x.2.2.2.1.length:Int))<|
lt (x.1.getD x.2.2.1.toNat 0) fun (v1317:Int)=>
rq (ile (0:Int) x.2.2.1&&ilt x.2.2.1 (x.1.length:Int))<|
rq false<|kn x y
else
lt (IntKind.i64.wrap (x.2.2.2.2.1+1)) fun v1318=>
kn (x.1,(),x.2.2.1,x.2.2.2.1,v1318,()) ()
else
ke 2 (x.1,(),x.2.2.1,x.2.2.2.1,x.2.2.2.2.1,()) ()
def fu1 (x:X1) (y:Y1):Nat:=((x.2.2.2.1.length:Int) - x.2.2.2.2.1).toNat+1
def l1 (x:X1) (y:Y1):Bool×Nat×X1×Y1×U1×V1:=rounds (fun rq kn ke kr x y=>g1 rq kn ke kr x y) () () (fu1 x y) x y
abbrev sh0:List (Nat×Sh):= [(0,.p (.sl (.int .i64))),(2,.nil),(3,.p (.int .i64))]
abbrev bx0:List (Nat×Ty):= []
abbrev aZ:List (Nat×Ty):= []
abbrev aY:List (Nat×Sh):= []
abbrev bf:List (Nat×Ty):= []
abbrev bU:List (Nat×Ty):= []
abbrev X0:Type:=(List Int)×Unit×Int×Unit
abbrev Y0:Type:=Unit
abbrev U0:Type:=Unit
abbrev V0:Type:=Unit
def g0 {Z:Type} (rq:Bool→Z→Z) (kn:X0→Y0→Z) (ke:Nat→X0→Y0→Z) (kr:U0→V0→Z) (x:X0) (y:Y0):Z:=
lt (x.1.length:Int) fun (v1301:Int)=>
lt (ilt x.2.2.1 v1301) fun v1302=>
bif v1302 then
lt (x.1.getD x.2.2.1.toNat 0) fun (v1303:Int)=>
rq (ile (0:Int) x.2.2.1&&ilt x.2.2.1 (x.1.length:Int))<|
lt (IntKind.i64.wrap (x.2.2.1 - 1)) fun v1304=>
lt (x.1.getD v1304.toNat 0) fun (v1305:Int)=>
rq (ile (0:Int) v1304&&ilt v1304 (x.1.length:Int))<|
lt (v1303== v1305) fun (v1306:Bool)=>
bif v1306 then
lt ((x.1.drop x.2.2.1.toNat).take ((x.1.length:Int).toNat - x.2.2.1.toNat)) fun (v1307:(List Int))=>
rq ((ile (0:Int) x.2.2.1&&ile x.2.2.1 (x.1.length:Int))&&ile (x.1.length:Int) (x.1.length:Int))<|
lt (gV.l1 (x.1,(),x.2.2.1,v1307,1,()) ()) fun w1319=>
rq w1319.1<|
lt ((w1319.2.2.1.1.drop w1319.2.2.1.2.2.1.toNat).take ((w1319.2.2.1.1.length:Int).toNat - w1319.2.2.1.2.2.1.toNat)) fun (v1320:(List Int))=>
rq ((ile (0:Int) w1319.2.2.1.2.2.1&&ile w1319.2.2.1.2.2.1 (w1319.2.2.1.1.length:Int))&&ile (w1319.2.2.1.1.length:Int) (w1319.2.2.1.1.length:Int))<|
rq false<|kn x y
else
lt (IntKind.i64.wrap (x.2.2.1+1)) fun v1321=>
kn (x.1,(),v1321,()) ()
else
ke 0 (x.1,(),x.2.2.1,()) ()
def fu0 (x:X0) (y:Y0):Nat:=((x.1.length:Int) - x.2.2.1).toNat+1
def l0 (x:X0) (y:Y0):Bool×Nat×X0×Y0×U0×V0:=rounds (fun rq kn ke kr x y=>g0 rq kn ke kr x y) () () (fu0 x y) x y
def g {Z:Type} (rq:Bool→Z→Z) (rt:X→Z) (s:(List Int)):Z:=
lt (s.length:Int) fun (v1297:Int)=>
lt (ilt v1297 2) fun v1298=>
bif v1298 then
rt s
else
lt (gV.l0 (s,(),1,()) ()) fun w1322=>
rq w1322.1<|
rt w1322.2.2.1.1
def r (s:(List Int)):Bool×X:=g chk (fun x=>(true,x)) s
def D:aI:=Dof (P:=Tryz.prog) []
abbrev lf1:=bY (R:=Res) [3] (rounds (fun rq kn ke kr x y=>g1 rq kn ke kr x y) () ()) fu1
abbrev lf0:=bY (R:=Res) [1] (rounds (fun rq kn ke kr x y=>g0 rq kn ke kr x y) () ()) fu0
def tab:List (Nat×LE Res):= [(10,.typed (eB 61 sh1 bx1 kI kH kN (lf1))),(5,.typed (eB 61 sh0 bx0 aZ aY bf (lf0)))]
theorem nW:Nonempty (Told E0 D tab Tryz.f57.ntmps (aF (codeOf Tryz.f57) 1) 61 sh1 bx1 kI kH kN lf1):=eX (sh:=sh1) (bx:=bx1) (ord:=kI) (shR:=kH) (bxR:=kN) nZ (by kernel_rfl) (by kernel_rfl) (by kernel_rfl) [3] _ _ _ @g1 (fun _ _ _ _ _=>by kernel_rfl) (by
  intro _ _ _ _ _ _ _ h i k x y
  simp only [g1]
  with_reducible repeat (first|(apply J.lt; intro _)|apply J.rq|apply J.bif|exact h _ _|exact i _ (by decide) _ _|exact k (by decide) _ _))
theorem bR:Nonempty (Told E0 D tab Tryz.f57.ntmps (aF (codeOf Tryz.f57) 0) 61 sh0 bx0 aZ aY bf lf0):=eX (sh:=sh0) (bx:=bx0) (ord:=aZ) (shR:=aY) (bxR:=bf) bU (by kernel_rfl) (by kernel_rfl) (by kernel_rfl) [1] _ _ _ @g0 (fun _ _ _ _ _=>by kernel_rfl) (by
  intro _ _ _ _ _ _ _ h i k x y
  simp only [g0]
  with_reducible repeat (first|(apply J.lt; intro _)|apply J.rq|apply J.bif|exact h _ _|exact i _ (by decide) _ _|exact k (by decide) _ _))
theorem bT:fF E0 D tab Tryz.f57.ntmps (codeOf Tryz.f57):=bN (bs:= [aF (codeOf Tryz.f57) 0,aF (codeOf Tryz.f57) 1]) (by kernel_rfl) (aD (bI (by kernel_rfl) (bR)) (aD (bI (by kernel_rfl) (nW)) aL))
abbrev aS:List AS:= [.one (.val (.sl (.int .i64)))]
abbrev bS:List Ty:= []
def ent:Ent Tryz.prog:=bO (D:=D) (tab:=tab) hE0 (ay _) [true] Tryz.func57 (by kernel_rfl) bT aS bS res (fun x y=>r x.1) (fun x y=>g (fun c z=>req c z) (fun x=>some (res x)) x.1) (fun _ _=>by kernel_rfl) (by
 intro x y
 show J _ (g chk (fun x=>(true,x)) x.1) (g (fun c z=>req c z) (fun x=>some (res x)) x.1)
 unfold g
 with_reducible repeat (first|(apply J.lt; intro _)|apply J.rq|apply J.bif|exact J.rt rfl))
end gV
namespace aB
abbrev X:Type:=(List Int)
def res (x:(List Int)):Res:=⟨[.val ⟨.sl (.int .i64),x⟩],[none],[]⟩
abbrev sh1:List (Nat×Sh):= [(0,.va 1000000 (.int .i64)),(2,.nil),(3,.p (.int .i64)),(4,.vs 1000000 (.int .i64) []),(5,.p (.int .i64))]
abbrev bx1:List (Nat×Ty):= [(1000000,.dyn (.int .i64))]
abbrev kI:List (Nat×Ty):= [(1000000,.dyn (.int .i64))]
abbrev kH:List (Nat×Sh):= []
abbrev kN:List (Nat×Ty):= []
abbrev nZ:List (Nat×Ty):= []
abbrev X1:Type:=Unit×Unit×Int×(Nat×Nat)×Int×Unit
abbrev Y1:Type:=(Bool×List Int)×Unit
abbrev U1:Type:=Unit
abbrev V1:Type:=Unit
def g1 {Z:Type} (rq:Bool→Z→Z) (kn:X1→Y1→Z) (ke:Nat→X1→Y1→Z) (kr:U1→V1→Z) (x:X1) (y:Y1):Z:=
lt ((x.2.2.2.1.2:Nat):Int) fun (v1342:Int)=>
lt (ilt x.2.2.2.2.1 v1342) fun v1343=>
bif v1343 then
lt ((x.2.2.2.1.1+x.2.2.2.2.1.toNat)) fun (n1344:Nat)=>
rq (ile (0:Int) x.2.2.2.2.1&&ilt x.2.2.2.2.1 ((x.2.2.2.1.2:Nat):Int))<|
lt (y.1.2.getD n1344 0) fun (v1345:Int)=>
lt (IntKind.i64.wrap (x.2.2.2.2.1 - 1)) fun v1346=>
lt ((x.2.2.2.1.1+v1346.toNat)) fun (n1347:Nat)=>
rq (ile (0:Int) v1346&&ilt v1346 ((x.2.2.2.1.2:Nat):Int))<|
lt (y.1.2.getD n1347 0) fun (v1348:Int)=>
lt (v1345 != v1348) fun (v1349:Bool)=>
bif v1349 then
lt ((x.2.2.2.1.1+x.2.2.2.2.1.toNat)) fun (n1350:Nat)=>
rq (ile (0:Int) x.2.2.2.2.1&&ilt x.2.2.2.2.1 ((x.2.2.2.1.2:Nat):Int))<|
lt (y.1.2.getD n1350 0) fun (v1351:Int)=>
rq (ile (0:Int) x.2.2.1&&ilt x.2.2.1 (y.1.2.length:Int))<|
lt (y.1.2.set x.2.2.1.toNat v1351) fun (v1352:(List Int))=>
lt (IntKind.i64.wrap (x.2.2.1+1)) fun v1353=>
lt (IntKind.i64.wrap (x.2.2.2.2.1+1)) fun v1354=>
kn ((),(),v1353,(x.2.2.2.1.1,x.2.2.2.1.2),v1354,()) ((y.1.1,v1352),())
else
lt (IntKind.i64.wrap (x.2.2.2.2.1+1)) fun v1355=>
kn ((),(),x.2.2.1,(x.2.2.2.1.1,x.2.2.2.1.2),v1355,()) (y.1,())
else
ke 2 ((),(),x.2.2.1,(x.2.2.2.1.1,x.2.2.2.1.2),x.2.2.2.2.1,()) (y.1,())
def fu1 (x:X1) (y:Y1):Nat:=(((x.2.2.2.1.2:Nat):Int) - x.2.2.2.2.1).toNat+1
def l1 (x:X1) (y:Y1):Bool×Nat×X1×Y1×U1×V1:=rounds (fun rq kn ke kr x y=>g1 rq kn ke kr x y) () () (fu1 x y) x y
abbrev sh0:List (Nat×Sh):= [(0,.va 1000000 (.int .i64)),(2,.nil),(3,.p (.int .i64))]
abbrev bx0:List (Nat×Ty):= [(1000000,.dyn (.int .i64))]
abbrev aZ:List (Nat×Ty):= [(1000000,.dyn (.int .i64))]
abbrev aY:List (Nat×Sh):= [(2,.vs 1000000 (.int .i64) [])]
abbrev bf:List (Nat×Ty):= [(1000000,.dyn (.int .i64))]
abbrev bU:List (Nat×Ty):= [(1000000,.dyn (.int .i64))]
abbrev X0:Type:=Unit×Unit×Int×Unit
abbrev Y0:Type:=(Bool×List Int)×Unit
abbrev U0:Type:=(Nat×Nat)×Unit
abbrev V0:Type:=(Bool×List Int)×Unit
def g0 {Z:Type} (rq:Bool→Z→Z) (kn:X0→Y0→Z) (ke:Nat→X0→Y0→Z) (kr:U0→V0→Z) (x:X0) (y:Y0):Z:=
lt (y.1.2.length:Int) fun (v1333:Int)=>
lt (ilt x.2.2.1 v1333) fun v1334=>
bif v1334 then
rq (ile (0:Int) x.2.2.1&&ilt x.2.2.1 (y.1.2.length:Int))<|
lt (y.1.2.getD x.2.2.1.toNat 0) fun (v1335:Int)=>
lt (IntKind.i64.wrap (x.2.2.1 - 1)) fun v1336=>
rq (ile (0:Int) v1336&&ilt v1336 (y.1.2.length:Int))<|
lt (y.1.2.getD v1336.toNat 0) fun (v1337:Int)=>
lt (v1335== v1337) fun (v1338:Bool)=>
bif v1338 then
lt (((y.1.2.length:Int).toNat - x.2.2.1.toNat)) fun (n1339:Nat)=>
rq ((ile (0:Int) x.2.2.1&&ile x.2.2.1 (y.1.2.length:Int))&&ile (y.1.2.length:Int) (y.1.2.length:Int))<|
lt (aB.l1 ((),(),x.2.2.1,(x.2.2.1.toNat,n1339),1,()) (y.1,())) fun w1356=>
rq w1356.1<|
lt (((w1356.2.2.2.1.1.2.length:Int).toNat - w1356.2.2.1.2.2.1.toNat)) fun (n1357:Nat)=>
rq ((ile (0:Int) w1356.2.2.1.2.2.1&&ile w1356.2.2.1.2.2.1 (w1356.2.2.2.1.1.2.length:Int))&&ile (w1356.2.2.2.1.1.2.length:Int) (w1356.2.2.2.1.1.2.length:Int))<|
lt (over w1356.2.2.2.1.1.2 w1356.2.2.1.2.2.1.toNat (List.replicate n1357 0)) fun (v1358:(List Int))=>
rq (ile (0:Int) w1356.2.2.1.2.2.1&&ile w1356.2.2.1.2.2.1 (v1358.length:Int))<|
kr ((0,w1356.2.2.1.2.2.1.toNat),()) ((w1356.2.2.2.1.1.1,v1358),())
else
lt (IntKind.i64.wrap (x.2.2.1+1)) fun v1359=>
kn ((),(),v1359,()) (y.1,())
else
ke 0 ((),(),x.2.2.1,()) (y.1,())
def fu0 (x:X0) (y:Y0):Nat:=((y.1.2.length:Int) - x.2.2.1).toNat+1
def l0 (x:X0) (y:Y0):Bool×Nat×X0×Y0×U0×V0:=rounds (fun rq kn ke kr x y=>g0 rq kn ke kr x y) ((0,0),()) ((true,[]),()) (fu0 x y) x y
def g {Z:Type} (rq:Bool→Z→Z) (rt:X→Z) (b:(Bool×List Int)):Z:=
lt (b.2.length:Int) fun (v1329:Int)=>
lt (ilt v1329 2) fun v1330=>
bif v1330 then
rt b.2
else
lt (aB.l0 ((),(),1,()) (b,())) fun w1360=>
rq w1360.1<|
bif Nat.beq w1360.2.1 0 then
rt ((w1360.2.2.2.2.2.1.2.drop w1360.2.2.2.2.1.1.1).take w1360.2.2.2.2.1.1.2)
else
rt w1360.2.2.2.1.1.2
def r (b:(Bool×List Int)):Bool×X:=g chk (fun x=>(true,x)) b
def D:aI:=Dof (P:=Tryz.prog) []
abbrev lf1:=bY (R:=Res) [3] (rounds (fun rq kn ke kr x y=>g1 rq kn ke kr x y) () ()) fu1
abbrev lf0:=bY (R:=Res) [0,1] (rounds (fun rq kn ke kr x y=>g0 rq kn ke kr x y) ((0,0),()) ((true,[]),())) fu0
def tab:List (Nat×LE Res):= [(10,.typed (eB 61 sh1 bx1 kI kH kN (lf1))),(5,.typed (eB 61 sh0 bx0 aZ aY bf (lf0)))]
theorem nW:Nonempty (Told E0 D tab Tryz.f57.ntmps (aF (codeOf Tryz.f57) 1) 61 sh1 bx1 kI kH kN lf1):=eX (sh:=sh1) (bx:=bx1) (ord:=kI) (shR:=kH) (bxR:=kN) nZ (by kernel_rfl) (by kernel_rfl) (by kernel_rfl) [3] _ _ _ @g1 (fun _ _ _ _ _=>by kernel_rfl) (by
  intro _ _ _ _ _ _ _ h i k x y
  simp only [g1]
  with_reducible repeat (first|(apply J.lt; intro _)|apply J.rq|apply J.bif|exact h _ _|exact i _ (by decide) _ _|exact k (by decide) _ _))
theorem bR:Nonempty (Told E0 D tab Tryz.f57.ntmps (aF (codeOf Tryz.f57) 0) 61 sh0 bx0 aZ aY bf lf0):=eX (sh:=sh0) (bx:=bx0) (ord:=aZ) (shR:=aY) (bxR:=bf) bU (by kernel_rfl) (by kernel_rfl) (by kernel_rfl) [0,1] _ _ _ @g0 (fun _ _ _ _ _=>by kernel_rfl) (by
  intro _ _ _ _ _ _ _ h i k x y
  simp only [g0]
  with_reducible repeat (first|(apply J.lt; intro _)|apply J.rq|apply J.bif|exact h _ _|exact i _ (by decide) _ _|exact k (by decide) _ _))
theorem bT:fF E0 D tab Tryz.f57.ntmps (codeOf Tryz.f57):=bN (bs:= [aF (codeOf Tryz.f57) 0,aF (codeOf Tryz.f57) 1]) (by kernel_rfl) (aD (bI (by kernel_rfl) (bR)) (aD (bI (by kernel_rfl) (nW)) aL))
abbrev aS:List AS:= [.one (.va 1000000 (.int .i64))]
abbrev bS:List Ty:= [.dyn (.int .i64)]
def ent:Ent Tryz.prog:=bO (D:=D) (tab:=tab) hE0 (ay _) [true] Tryz.func57 (by kernel_rfl) bT aS bS res (fun x y=>r y.1) (fun x y=>g (fun c z=>req c z) (fun x=>some (res x)) y.1) (fun _ _=>by kernel_rfl) (by
 intro x y
 show J _ (g chk (fun x=>(true,x)) y.1) (g (fun c z=>req c z) (fun x=>some (res x)) y.1)
 unfold g
 with_reducible repeat (first|(apply J.lt; intro _)|apply J.rq|apply J.bif|exact J.rt rfl))
end aB
namespace iO
abbrev X:Type:=Bool
def res (x:Bool):Res:=⟨[.val ⟨.bool,x⟩],[],[]⟩
def g {Z:Type} (rq:Bool→Z→Z) (rt:X→Z) (l:(List Int)):Z:=
bif l.isEmpty then
lt (gV.r []) fun w1323=>
rq w1323.1<|
lt (w1323.2.length:Int) fun (v1324:Int)=>
lt (l.length:Int) fun (v1325:Int)=>
lt (ilt v1324 v1325) fun v1326=>
rt v1326
else
lt (fM.r l) fun w1327=>
rq w1327.1<|
rq (nlt w1327.2.2.length 4611686018427387904)<|
lt (yP w1327.2.2) fun (v1328:(List Int))=>
lt (aB.r (w1327.2.1,v1328)) fun w1361=>
rq w1361.1<|
lt (w1361.2.length:Int) fun (v1362:Int)=>
lt (l.length:Int) fun (v1363:Int)=>
lt (ilt v1362 v1363) fun v1364=>
rt v1364
def r (l:(List Int)):Bool×X:=g chk (fun x=>(true,x)) l
def D:aI:=Dof (P:=Tryz.prog) [fM.Vl,rR,Oh gV.ent (aB.ent) rfl]
def tab:List (Nat×LE Res):= []
abbrev aS:List AS:= [.one (.val (.sl (.int .i64)))]
abbrev bS:List Ty:= []
def ent:Ent Tryz.prog:=bO (D:=D) (tab:=tab) hE0 (ay _) [true] Tryz.func32 (by kernel_rfl) aG aS bS res (fun x y=>r x.1) (fun x y=>g (fun c z=>req c z) (fun x=>some (res x)) x.1) (fun _ _=>by kernel_rfl) (by
 intro x y
 show J _ (g chk (fun x=>(true,x)) x.1) (g (fun c z=>req c z) (fun x=>some (res x)) x.1)
 unfold g
 with_reducible repeat (first|(apply J.lt; intro _)|apply J.rq|apply J.bif|exact J.rt rfl))
end iO
namespace mq
abbrev X:Type:=Bool
def res (x:Bool):Res:=⟨[.val ⟨.bool,x⟩],[],[]⟩
def g {Z:Type} (rq:Bool→Z→Z) (rt:X→Z) (a:(List Int)):Z:=
lt (ieq (a.getD 0 0) 0&&(ieq (a.getD 1 0) 0&&(ieq (a.getD 2 0) 0&&(ieq (a.getD 3 0) 0&&true)))) fun v1379=>
rt v1379
def r (a:(List Int)):Bool×X:=g chk (fun x=>(true,x)) a
def D:aI:=Dof (P:=Tryz.prog) []
def tab:List (Nat×LE Res):= []
abbrev aS:List AS:= [.one (.val (.arr 4 (.int .u64)))]
abbrev bS:List Ty:= []
def ent:Ent Tryz.prog:=bO (D:=D) (tab:=tab) hE0 (ay _) [true] Tryz.func58 (by kernel_rfl) aG aS bS res (fun x y=>r x.1) (fun x y=>g (fun c z=>req c z) (fun x=>some (res x)) x.1) (fun _ _=>by kernel_rfl) (by
 intro x y
 show J _ (g chk (fun x=>(true,x)) x.1) (g (fun c z=>req c z) (fun x=>some (res x)) x.1)
 unfold g
 with_reducible repeat (first|(apply J.lt; intro _)|apply J.rq|apply J.bif|exact J.rt rfl))
end mq
namespace mF
abbrev X:Type:=(List Int)
def res (x:(List Int)):Res:=⟨[.val ⟨.arr 4 (.int .u64),x⟩],[],[]⟩
def g {Z:Type} (rq:Bool→Z→Z) (rt:X→Z) (gx:(Option aj)) (a:(List Int)) (b:(List Int)):Z:=
lt (gQ.r gx) fun w1383=>
rq w1383.1<|
lt (iN.r a b w1383.2) fun w1384=>
rq w1384.1<|
rt w1384.2.1
def r (gx:(Option aj)) (a:(List Int)) (b:(List Int)):Bool×X:=g chk (fun x=>(true,x)) gx a b
def D:aI:=Dof (P:=Tryz.prog) [gQ.ent,iN.ent]
def tab:List (Nat×LE Res):= []
abbrev aS:List AS:= [.one (.val (.ref au)),.one (.val (.arr 4 (.int .u64))),.one (.val (.arr 4 (.int .u64)))]
abbrev bS:List Ty:= []
def ent:Ent Tryz.prog:=bO (D:=D) (tab:=tab) hE0 (ay _) [true] Tryz.func59 (by kernel_rfl) aG aS bS res (fun x y=>r x.1 x.2.1 x.2.2.1) (fun x y=>g (fun c z=>req c z) (fun x=>some (res x)) x.1 x.2.1 x.2.2.1) (fun _ _=>by kernel_rfl) (by
 intro x y
 show J _ (g chk (fun x=>(true,x)) x.1 x.2.1 x.2.2.1) (g (fun c z=>req c z) (fun x=>some (res x)) x.1 x.2.1 x.2.2.1)
 unfold g
 with_reducible repeat (first|(apply J.lt; intro _)|apply J.rq|apply J.bif|exact J.rt rfl))
end mF
namespace iq
abbrev X:Type:=(List Int)×Int
def res (x:(List Int)×Int):Res:=⟨[.val ⟨.arr 4 (.int .u64),x.1⟩,.val ⟨.int .i64,x.2⟩],[],[]⟩
abbrev sh0:List (Nat×Sh):= [(3,.pb 500000 (.arr 4 (.int .u64)) []),(4,.pb 500001 (.arr 4 (.int .u64)) []),(5,.p (.int .i64)),(6,.pb 500002 (.arr 4 (.int .u64)) []),(8,.pb 500003 (.arr 4 (.int .u64)) []),(9,.pb 500004 (.arr 4 (.int .u64)) []),(10,.pb 500005 (.arr 4 (.int .u64)) [])]
abbrev bx0:List (Nat×Ty):= [(500000,.arr 4 (.int .u64)),(500001,.arr 4 (.int .u64)),(500002,.arr 4 (.int .u64)),(500003,.arr 4 (.int .u64)),(500004,.arr 4 (.int .u64)),(500005,.arr 4 (.int .u64))]
abbrev aZ:List (Nat×Ty):= [(500000,.arr 4 (.int .u64)),(500001,.arr 4 (.int .u64)),(500002,.arr 4 (.int .u64)),(500003,.arr 4 (.int .u64)),(500004,.arr 4 (.int .u64)),(500005,.arr 4 (.int .u64))]
abbrev aY:List (Nat×Sh):= []
abbrev bf:List (Nat×Ty):= []
abbrev bU:List (Nat×Ty):= []
abbrev X0:Type:=Unit×Unit×Int×Unit×Unit×Unit×Unit×Unit
abbrev Y0:Type:=(List Int)×(List Int)×(List Int)×(List Int)×(List Int)×(List Int)×Unit
abbrev U0:Type:=Unit
abbrev V0:Type:=Unit
def g0 {Z:Type} (rq:Bool→Z→Z) (kn:X0→Y0→Z) (ke:Nat→X0→Y0→Z) (kr:U0→V0→Z) (x:X0) (y:Y0):Z:=
lt (!(ieq (y.2.2.1.getD 0 0) 0&&(ieq (y.2.2.1.getD 1 0) 0&&(ieq (y.2.2.1.getD 2 0) 0&&(ieq (y.2.2.1.getD 3 0) 0&&true))))) fun (v1393:Bool)=>
bif v1393 then
lt (lJ.r y.2.2.2.1 y.2.2.1) fun w1394=>
rq w1394.1<|
lt (jK.r w1394.2.1 y.2.2.2.2.2.1 y.1) fun w1395=>
rq w1395.1<|
lt (iN.r y.2.2.2.2.1 w1395.2.1 y.1) fun w1396=>
rq w1396.1<|
kn ((),(),x.2.2.1,(),(),(),(),()) (y.1,y.2.1,w1394.2.2.1,y.2.2.1,y.2.2.2.2.2.1,w1396.2.1,())
else
ke 0 ((),(),x.2.2.1,(),(),(),(),()) (y.1,y.2.1,y.2.2.1,y.2.2.2.1,y.2.2.2.2.1,y.2.2.2.2.2.1,())
def fu0 (x:X0) (y:Y0):Nat:=uZ
def l0 (x:X0) (y:Y0):Bool×Nat×X0×Y0×U0×V0:=rounds (fun rq kn ke kr x y=>g0 rq kn ke kr x y) () () (fu0 x y) x y
def g {Z:Type} (rq:Bool→Z→Z) (rt:X→Z) (a:(List Int)) (m:(List Int)):Z:=
lt (dY.r 2) fun w1387=>
rq w1387.1<|
lt (jD.r m w1387.2) fun w1388=>
rq w1388.1<|
lt (ilt w1388.2 0) fun v1389=>
bif v1389 then
rt ([0,0,0,0],1)
else
lt (gU.r a [0,0,0,0] m) fun w1390=>
rq w1390.1<|
lt (dY.r 1) fun w1391=>
rq w1391.1<|
lt (iq.l0 ((),(),0,(),(),(),(),()) (m,[0,0,0,0],w1390.2.1,m,[0,0,0,0],w1391.2,())) fun w1397=>
rq w1397.1<|
lt (dY.r 1) fun w1398=>
rq w1398.1<|
lt (!(ieq (w1397.2.2.2.1.2.2.2.1.getD 0 0) (w1398.2.getD 0 0)&&(ieq (w1397.2.2.2.1.2.2.2.1.getD 1 0) (w1398.2.getD 1 0)&&(ieq (w1397.2.2.2.1.2.2.2.1.getD 2 0) (w1398.2.getD 2 0)&&(ieq (w1397.2.2.2.1.2.2.2.1.getD 3 0) (w1398.2.getD 3 0)&&true))))) fun (v1399:Bool)=>
bif v1399 then
rt ([0,0,0,0],3)
else
rt (w1397.2.2.2.1.2.2.2.2.1,0)
def r (a:(List Int)) (m:(List Int)):Bool×X:=g chk (fun x=>(true,x)) a m
def D:aI:=Dof (P:=Tryz.prog) [dY.ent,jD.ent,gU.ent,lJ.ent,jK.ent,iN.ent]
abbrev lf0:=bY (R:=Res) [1] (rounds (fun rq kn ke kr x y=>g0 rq kn ke kr x y) () ()) fu0
def tab:List (Nat×LE Res):= [(6,.typed (eB 66 sh0 bx0 aZ aY bf (lf0)))]
theorem bR:Nonempty (Told E0 D tab Tryz.f92.ntmps (aF (codeOf Tryz.f92) 0) 66 sh0 bx0 aZ aY bf lf0):=eX (sh:=sh0) (bx:=bx0) (ord:=aZ) (shR:=aY) (bxR:=bf) bU (by kernel_rfl) (by kernel_rfl) (by kernel_rfl) [1] _ _ _ @g0 (fun _ _ _ _ _=>by kernel_rfl) (by
  intro _ _ _ _ _ _ _ h i k x y
  simp only [g0]
  with_reducible repeat (first|(apply J.lt; intro _)|apply J.rq|apply J.bif|exact h _ _|exact i _ (by decide) _ _|exact k (by decide) _ _))
theorem bT:fF E0 D tab Tryz.f92.ntmps (codeOf Tryz.f92):=bN (bs:= [aF (codeOf Tryz.f92) 0]) (by kernel_rfl) (aD (bI (by kernel_rfl) (bR)) aL)
abbrev aS:List AS:= [.one (.val (.arr 4 (.int .u64))),.one (.val (.arr 4 (.int .u64)))]
abbrev bS:List Ty:= []
def ent:Ent Tryz.prog:=bO (D:=D) (tab:=tab) hE0 (ay _) [true,true] Tryz.func92 (by kernel_rfl) bT aS bS res (fun x y=>r x.1 x.2.1) (fun x y=>g (fun c z=>req c z) (fun x=>some (res x)) x.1 x.2.1) (fun _ _=>by kernel_rfl) (by
 intro x y
 show J _ (g chk (fun x=>(true,x)) x.1 x.2.1) (g (fun c z=>req c z) (fun x=>some (res x)) x.1 x.2.1)
 unfold g
 with_reducible repeat (first|(apply J.lt; intro _)|apply J.rq|apply J.bif|exact J.rt rfl))
end iq
namespace pu
abbrev X:Type:=(List Int)
def res (x:(List Int)):Res:=⟨[.val ⟨.arr 4 (.int .u64),x⟩],[],[]⟩
def g {Z:Type} (rq:Bool→Z→Z) (rt:X→Z) (gx:(Option aj)) (a:(List Int)):Z:=
lt (gQ.r gx) fun w1386=>
rq w1386.1<|
lt (iq.r a w1386.2) fun w1400=>
rq w1400.1<|
lt (w1400.2.2 != 0) fun (v1401:Bool)=>
bif v1401 then
rt [0,0,0,0]
else
rt w1400.2.1
def r (gx:(Option aj)) (a:(List Int)):Bool×X:=g chk (fun x=>(true,x)) gx a
def D:aI:=Dof (P:=Tryz.prog) [gQ.ent,iq.ent]
def tab:List (Nat×LE Res):= []
abbrev aS:List AS:= [.one (.val (.ref au)),.one (.val (.arr 4 (.int .u64)))]
abbrev bS:List Ty:= []
def ent:Ent Tryz.prog:=bO (D:=D) (tab:=tab) hE0 (ay _) [true] Tryz.func62 (by kernel_rfl) aG aS bS res (fun x y=>r x.1 x.2.1) (fun x y=>g (fun c z=>req c z) (fun x=>some (res x)) x.1 x.2.1) (fun _ _=>by kernel_rfl) (by
 intro x y
 show J _ (g chk (fun x=>(true,x)) x.1 x.2.1) (g (fun c z=>req c z) (fun x=>some (res x)) x.1 x.2.1)
 unfold g
 with_reducible repeat (first|(apply J.lt; intro _)|apply J.rq|apply J.bif|exact J.rt rfl))
end pu
namespace ng
abbrev X:Type:=(List Int)
def res (x:(List Int)):Res:=⟨[.val ⟨.arr 4 (.int .u64),x⟩],[],[]⟩
def g {Z:Type} (rq:Bool→Z→Z) (rt:X→Z) (f:(List (List Int))) (kx:Int):Z:=
lt (ilt kx 0) fun v1409=>
bif v1409 then
rt [0,0,0,0]
else
lt (f.length:Int) fun (v1410:Int)=>
lt (ile v1410 kx) fun v1411=>
bif v1411 then
rt [0,0,0,0]
else
lt (f.getD kx.toNat [0,0,0,0]) fun (v1412:(List Int))=>
rq (ile (0:Int) kx&&ilt kx (f.length:Int))<|
rt v1412
def r (f:(List (List Int))) (kx:Int):Bool×X:=g chk (fun x=>(true,x)) f kx
def D:aI:=Dof (P:=Tryz.prog) []
def tab:List (Nat×LE Res):= []
abbrev aS:List AS:= [.one (.val (.sl (.arr 4 (.int .u64)))),.one (.val (.int .i64))]
abbrev bS:List Ty:= []
def ent:Ent Tryz.prog:=bO (D:=D) (tab:=tab) hE0 (ay _) [true] Tryz.func90 (by kernel_rfl) aG aS bS res (fun x y=>r x.1 x.2.1) (fun x y=>g (fun c z=>req c z) (fun x=>some (res x)) x.1 x.2.1) (fun _ _=>by kernel_rfl) (by
 intro x y
 show J _ (g chk (fun x=>(true,x)) x.1 x.2.1) (g (fun c z=>req c z) (fun x=>some (res x)) x.1 x.2.1)
 unfold g
 with_reducible repeat (first|(apply J.lt; intro _)|apply J.rq|apply J.bif|exact J.rt rfl))
end ng
namespace j5
abbrev X:Type:=(List Int)×(Option aj)×(List (List Int))×Int×(List Int)
def res (x:(List Int)×(Option aj)×(List (List Int))×Int×(List Int)):Res:=⟨[.val ⟨.arr 4 (.int .u64),x.1⟩],[some ⟨.ref au,x.2.1⟩,some ⟨.sl (.arr 4 (.int .u64)),x.2.2.1⟩,some ⟨.int .i64,x.2.2.2.1⟩,some ⟨.arr 4 (.int .u64),x.2.2.2.2⟩],[]⟩
def g {Z:Type} (rq:Bool→Z→Z) (rt:X→Z) (kx:Int) (b:(Option aj)) (bx:(List (List Int))) (bx1:Int) (bx11:(List Int)):Z:=
lt (IntKind.i64.wrap (kx - bx1)) fun v1408=>
lt (ng.r bx v1408) fun w1413=>
rq w1413.1<|
lt (iV.r b w1413.2 bx11) fun w1414=>
rq w1414.1<|
rt (w1414.2,b,bx,bx1,bx11)
def r (kx:Int) (b:(Option aj)) (bx:(List (List Int))) (bx1:Int) (bx11:(List Int)):Bool×X:=g chk (fun x=>(true,x)) kx b bx bx1 bx11
def D:aI:=Dof (P:=Tryz.prog) [ng.ent,iV.ent]
def tab:List (Nat×LE Res):= []
abbrev aS:List AS:= [.one (.val (.int .i64)),.one (.pb 1000000 (.ref au) []),.one (.pb 1000001 (.sl (.arr 4 (.int .u64))) []),.one (.pb 1000002 (.int .i64) []),.one (.pb 1000003 (.arr 4 (.int .u64)) [])]
abbrev bS:List Ty:= [.ref au,.sl (.arr 4 (.int .u64)),.int .i64,.arr 4 (.int .u64)]
def ent:Ent Tryz.prog:=bO (D:=D) (tab:=tab) hE0 (ay _) [true] Tryz.func91 (by kernel_rfl) aG aS bS res (fun x y=>r x.1 y.1 y.2.1 y.2.2.1 y.2.2.2.1) (fun x y=>g (fun c z=>req c z) (fun x=>some (res x)) x.1 y.1 y.2.1 y.2.2.1 y.2.2.2.1) (fun _ _=>by kernel_rfl) (by
 intro x y
 show J _ (g chk (fun x=>(true,x)) x.1 y.1 y.2.1 y.2.2.1 y.2.2.2.1) (g (fun c z=>req c z) (fun x=>some (res x)) x.1 y.1 y.2.1 y.2.2.1 y.2.2.2.1)
 unfold g
 with_reducible repeat (first|(apply J.lt; intro _)|apply J.rq|apply J.bif|exact J.rt rfl))
end j5
namespace fA
abbrev X:Type:=Nat×(Unit)×(Nat×Nat×(Bool×List (List Int)))
def pR (x:Unit):Res:=⟨[.nil],[],[]⟩
def pQ (x:Nat×Nat×(Bool×List (List Int))):Res:=⟨[.vs 1000000 (.arr 4 (.int .u64)) [] x.1 x.2.1],[],[⟨.dyn (.arr 4 (.int .u64)),x.2.2⟩]⟩
def res (x:X):Res:=bif Nat.beq x.1 0 then pR x.2.1 else (pQ x.2.2)
def brn (w:Bool×X):Brn Res:= .ite (Nat.beq w.2.1 0) (.one w.1 (pR w.2.2.1)) (.one w.1 (pQ w.2.2.2))
theorem dA (w:Bool×X):(brn w).res=(w.1,res w.2):=by
 cases h0:Nat.beq w.2.1 0 with
 |true=>simp only [brn,res,Brn.res,h0,cond_true,cond_false]
 |false=>
  simp only [brn,res,Brn.res,h0,cond_true,cond_false]
abbrev sh1:List (Nat×Sh):= [(4,.nil),(5,.vs 501000 (.arr 4 (.int .u64)) [])]
abbrev bx1:List (Nat×Ty):= [(501000,.dyn (.arr 4 (.int .u64)))]
abbrev kI:List (Nat×Ty):= [(501000,.dyn (.arr 4 (.int .u64)))]
abbrev kH:List (Nat×Sh):= []
abbrev kN:List (Nat×Ty):= []
abbrev nZ:List (Nat×Ty):= []
abbrev X1:Type:=Unit×(Nat×Nat)×Unit
abbrev Y1:Type:=(Bool×List (List Int))×Unit
abbrev U1:Type:=Unit
abbrev V1:Type:=Unit
def g1 {Z:Type} (rq:Bool→Z→Z) (kn:X1→Y1→Z) (ke:Nat→X1→Y1→Z) (kr:U1→V1→Z) (x:X1) (y:Y1):Z:=
lt ((x.2.1.2:Nat):Int) fun (v1462:Int)=>
lt (ilt 0 v1462) fun v1463=>
bif v1463 then
lt ((x.2.1.2:Nat):Int) fun (v1464:Int)=>
lt (IntKind.i64.wrap (v1464 - 1)) fun v1465=>
lt ((x.2.1.1+v1465.toNat)) fun (n1466:Nat)=>
rq (ile (0:Int) v1465&&ilt v1465 ((x.2.1.2:Nat):Int))<|
lt (y.1.2.getD n1466 [0,0,0,0]) fun (v1467:(List Int))=>
lt (mq.r v1467) fun w1468=>
rq w1468.1<|
bif w1468.2 then
lt ((x.2.1.2:Nat):Int) fun (v1469:Int)=>
lt (IntKind.i64.wrap (v1469 - 1)) fun v1470=>
rq (ile (0:Int) v1470&&ile v1470 ((x.2.1.2:Nat):Int))<|
kn ((),(x.2.1.1,v1470.toNat),()) (y.1,())
else
ke 2 ((),(x.2.1.1,x.2.1.2),()) (y.1,())
else
ke 2 ((),(x.2.1.1,x.2.1.2),()) (y.1,())
def fu1 (x:X1) (y:Y1):Nat:=(((x.2.1.2:Nat):Int) - (0:Int)).toNat+1
def l1 (x:X1) (y:Y1):Bool×Nat×X1×Y1×U1×V1:=rounds (fun rq kn ke kr x y=>g1 rq kn ke kr x y) () () (fu1 x y) x y
abbrev sh0:List (Nat×Sh):= [(0,.p (.ref au)),(4,.nil),(5,.va 500000 (.arr 4 (.int .u64))),(11,.p (.sl (.arr 4 (.int .u64)))),(12,.p (.int .i64)),(13,.p (.int .i64))]
abbrev bx0:List (Nat×Ty):= [(500000,.dyn (.arr 4 (.int .u64)))]
abbrev aZ:List (Nat×Ty):= [(500000,.dyn (.arr 4 (.int .u64)))]
abbrev aY:List (Nat×Sh):= []
abbrev bf:List (Nat×Ty):= []
abbrev bU:List (Nat×Ty):= []
abbrev X0:Type:=(Option aj)×Unit×Unit×(List (List Int))×Int×Int×Unit
abbrev Y0:Type:=(Bool×List (List Int))×Unit
abbrev U0:Type:=Unit
abbrev V0:Type:=Unit
def g0 {Z:Type} (rq:Bool→Z→Z) (kn:X0→Y0→Z) (ke:Nat→X0→Y0→Z) (kr:U0→V0→Z) (x:X0) (y:Y0):Z:=
lt (ilt x.2.2.2.2.2.1 x.2.2.2.2.1) fun v1455=>
bif v1455 then
lt (x.2.2.2.1.getD x.2.2.2.2.2.1.toNat [0,0,0,0]) fun (v1456:(List Int))=>
rq (ile (0:Int) x.2.2.2.2.2.1&&ilt x.2.2.2.2.2.1 (x.2.2.2.1.length:Int))<|
lt (iW.r x.1 v1456 [0,0,0,0]) fun w1457=>
rq w1457.1<|
lt (y.1.1&&false) fun (v1458:Bool)=>
lt (y.1.2++ [w1457.2]) fun (v1459:(List (List Int)))=>
rq (nle ((2*(y.1.2.length+1)+512)*32) 70368744177664)<|
lt (IntKind.i64.wrap (x.2.2.2.2.2.1+1)) fun v1460=>
kn (x.1,(),(),x.2.2.2.1,x.2.2.2.2.1,v1460,()) ((v1458,v1459),())
else
ke 0 (x.1,(),(),x.2.2.2.1,x.2.2.2.2.1,x.2.2.2.2.2.1,()) (y.1,())
def fu0 (x:X0) (y:Y0):Nat:=(x.2.2.2.2.1 - x.2.2.2.2.2.1).toNat+1
def l0 (x:X0) (y:Y0):Bool×Nat×X0×Y0×U0×V0:=rounds (fun rq kn ke kr x y=>g0 rq kn ke kr x y) () () (fu0 x y) x y
def g {Z:Type} (rq:Bool→Z→Z) (rt:X→Z) (gx:(Option aj)) (f:(List (List Int))):Z:=
lt (bH.r gx) fun w1453=>
rq w1453.1<|
bif w1453.2.isNone then
rt (0,(),(0,0,(true,[])))
else
lt (f.length:Int) fun (v1454:Int)=>
lt (fA.l0 (gx,(),(),f,v1454,0,()) ((true,[]),())) fun w1461=>
rq w1461.1<|
lt (fA.l1 ((),(0,w1461.2.2.2.1.1.2.length),()) (w1461.2.2.2.1.1,())) fun w1471=>
rq w1471.1<|
rt (1,(),(w1471.2.2.1.2.1.1,w1471.2.2.1.2.1.2,w1471.2.2.2.1.1))
def r (gx:(Option aj)) (f:(List (List Int))):Bool×X:=g chk (fun x=>(true,x)) gx f
def D:aI:=Dof (P:=Tryz.prog) [bH.ent,iW.ent,mq.ent]
abbrev lf1:=bY (R:=Res) [3] (rounds (fun rq kn ke kr x y=>g1 rq kn ke kr x y) () ()) fu1
abbrev lf0:=bY (R:=Res) [1] (rounds (fun rq kn ke kr x y=>g0 rq kn ke kr x y) () ()) fu0
def tab:List (Nat×LE Res):= [(10,.typed (eB 43 sh1 bx1 kI kH kN (lf1))),(6,.typed (eB 43 sh0 bx0 aZ aY bf (lf0)))]
theorem run (gx:(Option aj)) (f:(List (List Int))):iD E0 [false] D (iR E0 D tab 9) Tryz.f120 (codeOf Tryz.f120) [.val ⟨.ref au,gx⟩,.val ⟨.sl (.arr 4 (.int .u64)),f⟩] []=g (fun c z=>req c z) (fun x=>some (res x)) gx f:=by kernel_rfl
theorem rel (gx:(Option aj)) (f:(List (List Int))):J (fun w z=>z=some (res w)) (g chk (fun x=>(true,x)) gx f) (g (fun c z=>req c z) (fun x=>some (res x)) gx f):=by
 unfold g
 with_reducible repeat (first|(apply J.lt; intro _)|apply J.rq|apply J.bif|exact J.rt rfl)
theorem nW:Nonempty (Told E0 D tab Tryz.f120.ntmps (aF (codeOf Tryz.f120) 1) 43 sh1 bx1 kI kH kN lf1):=eX (sh:=sh1) (bx:=bx1) (ord:=kI) (shR:=kH) (bxR:=kN) nZ (by kernel_rfl) (by kernel_rfl) (by kernel_rfl) [3] _ _ _ @g1 (fun _ _ _ _ _=>by kernel_rfl) (by
  intro _ _ _ _ _ _ _ h i k x y
  simp only [g1]
  with_reducible repeat (first|(apply J.lt; intro _)|apply J.rq|apply J.bif|exact h _ _|exact i _ (by decide) _ _|exact k (by decide) _ _))
theorem bR:Nonempty (Told E0 D tab Tryz.f120.ntmps (aF (codeOf Tryz.f120) 0) 43 sh0 bx0 aZ aY bf lf0):=eX (sh:=sh0) (bx:=bx0) (ord:=aZ) (shR:=aY) (bxR:=bf) bU (by kernel_rfl) (by kernel_rfl) (by kernel_rfl) [1] _ _ _ @g0 (fun _ _ _ _ _=>by kernel_rfl) (by
  intro _ _ _ _ _ _ _ h i k x y
  simp only [g0]
  with_reducible repeat (first|(apply J.lt; intro _)|apply J.rq|apply J.bif|exact h _ _|exact i _ (by decide) _ _|exact k (by decide) _ _))
theorem bT:fF E0 D tab Tryz.f120.ntmps (codeOf Tryz.f120):=bN (bs:= [aF (codeOf Tryz.f120) 0,aF (codeOf Tryz.f120) 1]) (by kernel_rfl) (aD (bI (by kernel_rfl) (bR)) (aD (bI (by kernel_rfl) (nW)) aL))
theorem ok:oq Tryz.f120=true:=by kernel_rfl
abbrev aS:List AS:= [.one (.val (.ref au)),.one (.val (.sl (.arr 4 (.int .u64))))]
abbrev bS:List Ty:= []
def F (x:ASs aS) (y:Bs bS):Brn Res:=brn (r x.1 x.2.1)
theorem good (x:ASs aS) (y:Bs bS) (h:(F x y).res.1=true):Good Tryz.prog 120 (ASs.mk aS x) (Bs.mk bS y) (F x y).res.2:=
 fZ hE0 (ay _) Tryz.func120 ok bT dA (run x.1 x.2.1) (rel x.1 x.2.1) h
def ent:Ent Tryz.prog:=⟨120,shF aS bS F,bX good⟩
end fA
end Go.Own
