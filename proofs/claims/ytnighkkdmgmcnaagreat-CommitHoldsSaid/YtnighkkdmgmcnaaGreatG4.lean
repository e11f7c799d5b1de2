/- What functions compute, printed by wip/gen/gen2.py. -/
import Derived.Test.YtnighkkdmgmcnaaGreatG3
set_option linter.unusedVariables false
set_option linter.unusedSimpArgs false
set_option maxRecDepth 100000
noncomputable section
namespace Go.Own
open Go.Proofs Go.Proofs.YtnighkkdmgmcnaaGreat
namespace ic
abbrev X:Type:=(List (List Int))×Int
def res (x:(List (List Int))×Int):Res:=⟨[.val ⟨.sl (.arr 4 (.int .u64)),x.1⟩,.val ⟨.int .i64,x.2⟩],[],[]⟩
def brn (w:Bool×X):Brn Res:= .one w.1 (res w.2)
theorem cB (w:Bool×X):(brn w).res=(w.1,res w.2):=rfl
abbrev sh0:List (Nat×Sh):= [(0,.p (.ref ak)),(1,.p (.sl (.arr 4 (.int .u64)))),(6,.nil),(7,.p (.int .i64)),(8,.va 500000 (.arr 4 (.int .u64))),(31,.p (.int .i64)),(32,.p (.int .i64))]
abbrev bx0:List (Nat×Ty):= [(500000,.dyn (.arr 4 (.int .u64)))]
abbrev aY:List (Nat×Ty):= [(500000,.dyn (.arr 4 (.int .u64)))]
abbrev aX:List (Nat×Sh):= []
abbrev aZ:List (Nat×Ty):= []
abbrev bX:List (Nat×Ty):= []
abbrev X0:Type:=(Option af)×(List (List Int))×Unit×Int×Unit×Int×Int×Unit
abbrev Y0:Type:=(Bool×List (List Int))×Unit
abbrev U0:Type:=Unit
abbrev V0:Type:=Unit
def g0 {Z:Type} (rq:Bool→Z→Z) (kn:X0→Y0→Z) (ke:Nat→X0→Y0→Z) (kr:U0→V0→Z) (x:X0) (y:Y0):Z:=
lt (ilt x.2.2.2.2.2.2.1 x.2.2.2.2.2.1) fun v1278=>
bif v1278 then
lt (kY.r x.1 [0,0,0,0]) fun w1285=>
rq w1285.1<|
rq (ile (0:Int) x.2.2.2.2.2.2.1&&ilt x.2.2.2.2.2.2.1 (y.1.2.length:Int))<|
lt (y.1.2.set x.2.2.2.2.2.2.1.toNat w1285.2) fun (v1286:(List (List Int)))=>
lt (x.2.1.length:Int) fun (v1287:Int)=>
lt (ilt x.2.2.2.2.2.2.1 v1287) fun v1288=>
bif v1288 then
lt (x.2.1.getD x.2.2.2.2.2.2.1.toNat [0,0,0,0]) fun (v1289:(List Int))=>
rq (ile (0:Int) x.2.2.2.2.2.2.1&&ilt x.2.2.2.2.2.2.1 (x.2.1.length:Int))<|
lt (kY.r x.1 v1289) fun w1290=>
rq w1290.1<|
rq (ile (0:Int) x.2.2.2.2.2.2.1&&ilt x.2.2.2.2.2.2.1 (v1286.length:Int))<|
lt (v1286.set x.2.2.2.2.2.2.1.toNat w1290.2) fun (v1291:(List (List Int)))=>
lt (IntKind.i64.wrap (x.2.2.2.2.2.2.1+1)) fun v1292=>
kn (x.1,x.2.1,(),x.2.2.2.1,(),x.2.2.2.2.2.1,v1292,()) ((y.1.1,v1291),())
else
lt (IntKind.i64.wrap (x.2.2.2.2.2.2.1+1)) fun v1293=>
kn (x.1,x.2.1,(),x.2.2.2.1,(),x.2.2.2.2.2.1,v1293,()) ((y.1.1,v1286),())
else
ke 0 (x.1,x.2.1,(),x.2.2.2.1,(),x.2.2.2.2.2.1,x.2.2.2.2.2.2.1,()) (y.1,())
def fu0 (x:X0) (y:Y0):Nat:=(x.2.2.2.2.2.1 - x.2.2.2.2.2.2.1).toNat+1
def l0 (x:X0) (y:Y0):Bool×Nat×X0×Y0×U0×V0:=rounds (fun rq kn ke kr x y=>g0 rq kn ke kr x y) () () (fu0 x y) x y
def g {Z:Type} (rq:Bool→Z→Z) (rt:X→Z) (gx:(Option af)) (f:(List (List Int))) (n:Int):Z:=
lt (bA.r gx) fun w1211=>
rq w1211.1<|
bif w1211.2.isNone then
rt ([],1)
else
lt (ilt n 1) fun v1212=>
bif v1212 then
rt ([],1)
else
lt (ilt 7 n) fun v1213=>
bif v1213 then
rt ([],1)
else
lt (eO.r gx f) fun w1274=>
bif Nat.beq w1274.2.1 0 then
rq w1274.1<|
lt (ilt n (0:Int)) fun v1275=>
bif v1275 then
rt ([],1)
else
lt (List.replicate n.toNat [0,0,0,0]) fun (v1276:(List (List Int)))=>
rq ((ile (0:Int) n&&ile n n)&&ile (n*((32:Nat):Int)) 70368744177664)<|
lt (ic.l0 (gx,f,(),0,(),n,0,()) ((false,v1276),())) fun w1294=>
rq w1294.1<|
rt (w1294.2.2.2.1.1.2,0)
else
rq w1274.1<|
lt ((w1274.2.2.2.2.1:Nat):Int) fun (v1295:Int)=>
lt (ilt n v1295) fun v1296=>
bif v1296 then
rt ([],1)
else
lt (List.replicate n.toNat [0,0,0,0]) fun (v1297:(List (List Int)))=>
rq ((ile (0:Int) n&&ile n n)&&ile (n*((32:Nat):Int)) 70368744177664)<|
lt (ic.l0 (gx,f,(),0,(),n,0,()) ((false,v1297),())) fun w1298=>
rq w1298.1<|
rt (w1298.2.2.2.1.1.2,0)
def r (gx:(Option af)) (f:(List (List Int))) (n:Int):Bool×X:=g chk (fun x=>(true,x)) gx f n
def D:aH:=Dof (P:=Tryz.prog) [bA.ent,eO.ent,kY.ent]
abbrev lf0:=dw (R:=Res) [1] (rounds (fun rq kn ke kr x y=>g0 rq kn ke kr x y) () ()) fu0
def tab:List (Nat×LE Res):= [(6,.typed (eY 56 sh0 bx0 aY aX aZ (lf0)))]
theorem run (gx:(Option af)) (f:(List (List Int))) (n:Int):gL E0 [true,true] D (iG E0 D tab 9) Tryz.f13 (codeOf Tryz.f13) [.val ⟨.ref ak,gx⟩,.val ⟨.sl (.arr 4 (.int .u64)),f⟩,.val ⟨.int .i64,n⟩] []=g (fun c z=>req c z) (fun x=>some (res x)) gx f n:=by kernel_rfl
theorem rel (gx:(Option af)) (f:(List (List Int))) (n:Int):J (fun w z=>z=some (res w)) (g chk (fun x=>(true,x)) gx f n) (g (fun c z=>req c z) (fun x=>some (res x)) gx f n):=by
 unfold g
 with_reducible repeat (first|(apply J.lt; intro _)|apply J.rq|apply J.bif|exact J.rt rfl)
theorem bV:Nonempty (Told E0 D tab Tryz.f13.ntmps (aG (codeOf Tryz.f13) 0) 56 sh0 bx0 aY aX aZ lf0):=fH (sh:=sh0) (bx:=bx0) (ord:=aY) (shR:=aX) (bxR:=aZ) bX (by kernel_rfl) (by kernel_rfl) (by kernel_rfl) [1] _ _ _ @g0 (fun _ _ _ _ _=>by kernel_rfl) (by
  intro _ _ _ _ _ _ _ h i k x y
  simp only [g0]
  with_reducible repeat (first|(apply J.lt; intro _)|apply J.rq|apply J.bif|exact h _ _|exact i _ (by decide) _ _|exact k (by decide) _ _))
theorem bW:fQ E0 D tab Tryz.f13.ntmps (codeOf Tryz.f13):=bT (bs:= [aG (codeOf Tryz.f13) 0]) (by kernel_rfl) (aF (bP (by kernel_rfl) (bV)) aO)
theorem ok:nA Tryz.f13=true:=by kernel_rfl
abbrev aS:List AS:= [.one (.val (.ref ak)),.one (.val (.sl (.arr 4 (.int .u64)))),.one (.val (.int .i64))]
abbrev bS:List Ty:= []
def F (x:ASs aS) (y:Bs bS):Brn Res:=brn (r x.1 x.2.1 x.2.2.1)
theorem good (x:ASs aS) (y:Bs bS) (h:(F x y).res.1=true):Good Tryz.prog 13 (ASs.mk aS x) (Bs.mk bS y) (F x y).res.2:=
 fP hE0 (ay _) Tryz.func13 ok bW cB (run x.1 x.2.1 x.2.2.1) (rel x.1 x.2.1 x.2.2.1) h
def ent:Ent Tryz.prog:=⟨13,shF aS bS F,bM good⟩
def ro:(Option af)→(List (List Int))→Int→Bool×X:=Classical.choose (⟨r,rfl⟩:∃ q:(Option af)→(List (List Int))→Int→Bool×X,q=r)
theorem gB:ro=r:=Classical.choose_spec (⟨r,rfl⟩:∃ q:(Option af)→(List (List Int))→Int→Bool×X,q=r)
def FO (x:ASs aS) (y:Bs bS):Brn Res:=brn (ro x.1 x.2.1 x.2.2.1)
theorem jN:FO=F:=by unfold FO F; rw [gB]
def nO:Ent Tryz.prog:=⟨13,shF aS bS FO,bM (by rw [jN]; exact good)⟩
end ic
namespace oI
abbrev X:Type:=Bool
def res (x:Bool):Res:=⟨[.val ⟨.bool,x⟩],[],[]⟩
def g {Z:Type} (rq:Bool→Z→Z) (rt:X→Z) (gx:(Option af)) (a:(List Int)):Z:=
lt (!(ieq (a.getD 0 0) 0&&(ieq (a.getD 1 0) 0&&(ieq (a.getD 2 0) 0&&(ieq (a.getD 3 0) 0&&true))))) fun (v1308:Bool)=>
bif v1308 then
lt (fq.r gx) fun w1309=>
rq w1309.1<|
lt (iK.r w1309.2 a) fun w1310=>
rq w1310.1<|
bif w1310.2 then
lt (fq.r gx) fun w1311=>
rq w1311.1<|
lt (fZ.r gx) fun w1312=>
rq w1312.1<|
lt (eH.r w1311.2 a w1312.2) fun w1313=>
rq w1313.1<|
lt (dM.r 1) fun w1314=>
rq w1314.1<|
lt (ieq (w1313.2.getD 0 0) (w1314.2.getD 0 0)&&(ieq (w1313.2.getD 1 0) (w1314.2.getD 1 0)&&(ieq (w1313.2.getD 2 0) (w1314.2.getD 2 0)&&(ieq (w1313.2.getD 3 0) (w1314.2.getD 3 0)&&true)))) fun v1315=>
rt v1315
else
rt false
else
rt false
def r (gx:(Option af)) (a:(List Int)):Bool×X:=g chk (fun x=>(true,x)) gx a
def D:aH:=Dof (P:=Tryz.prog) [fq.ent,iK.ent,fZ.ent,eH.ent,dM.ent]
def tab:List (Nat×LE Res):= []
abbrev aS:List AS:= [.one (.val (.ref ak)),.one (.val (.arr 4 (.int .u64)))]
abbrev bS:List Ty:= []
def ent:Ent Tryz.prog:=bH (D:=D) (tab:=tab) hE0 (ay _) [true] Tryz.func41 (by kernel_rfl) aC aS bS res (fun x y=>r x.1 x.2.1) (fun x y=>g (fun c z=>req c z) (fun x=>some (res x)) x.1 x.2.1) (fun _ _=>by kernel_rfl) (by
 intro x y
 show J _ (g chk (fun x=>(true,x)) x.1 x.2.1) (g (fun c z=>req c z) (fun x=>some (res x)) x.1 x.2.1)
 unfold g
 with_reducible repeat (first|(apply J.lt; intro _)|apply J.rq|apply J.bif|exact J.rt rfl))
end oI
namespace iy
abbrev X:Type:=Bool×Int
def res (x:Bool×Int):Res:=⟨[.val ⟨.bool,x.1⟩],[some ⟨.int .i64,x.2⟩],[]⟩
def g {Z:Type} (rq:Bool→Z→Z) (rt:X→Z) (xx:Int) (b:Int):Z:=
lt (ilt xx b) fun v1336=>
bif v1336 then
rt (true,b)
else
lt (ilt 7 xx) fun v1337=>
rt (v1337,b)
def r (xx:Int) (b:Int):Bool×X:=g chk (fun x=>(true,x)) xx b
def D:aH:=Dof (P:=Tryz.prog) []
def tab:List (Nat×LE Res):= []
abbrev aS:List AS:= [.one (.val (.int .i64)),.one (.pb 1000000 (.int .i64) [])]
abbrev bS:List Ty:= [.int .i64]
def ent:Ent Tryz.prog:=bH (D:=D) (tab:=tab) hE0 (ay _) [true] Tryz.func108 (by kernel_rfl) aC aS bS res (fun x y=>r x.1 y.1) (fun x y=>g (fun c z=>req c z) (fun x=>some (res x)) x.1 y.1) (fun _ _=>by kernel_rfl) (by
 intro x y
 show J _ (g chk (fun x=>(true,x)) x.1 y.1) (g (fun c z=>req c z) (fun x=>some (res x)) x.1 y.1)
 unfold g
 with_reducible repeat (first|(apply J.lt; intro _)|apply J.rq|apply J.bif|exact J.rt rfl))
end iy
namespace bY
abbrev X:Type:=Int×Int
def res (x:Int×Int):Res:=⟨[.val ⟨.int .i64,x.1⟩],[some ⟨.int .i64,x.2⟩],[]⟩
abbrev sh0:List (Nat×Sh):= [(0,.p (.sl (.int .i64))),(1,.clo 108 [(1000000,.int .i64)]),(4,.p (.int .i64)),(7,.p (.int .i64)),(8,.p (.int .i64))]
abbrev bx0:List (Nat×Ty):= [(1000000,.int .i64)]
abbrev aY:List (Nat×Ty):= [(1000000,.int .i64)]
abbrev aX:List (Nat×Sh):= [(4,.p (.int .i64))]
abbrev aZ:List (Nat×Ty):= [(1000000,.int .i64)]
abbrev bX:List (Nat×Ty):= [(1000000,.int .i64)]
abbrev X0:Type:=(List Int)×Unit×Int×Int×Int×Unit
abbrev Y0:Type:=Int×Unit
abbrev U0:Type:=Int×Unit
abbrev V0:Type:=Int×Unit
def g0 {Z:Type} (rq:Bool→Z→Z) (kn:X0→Y0→Z) (ke:Nat→X0→Y0→Z) (kr:U0→V0→Z) (x:X0) (y:Y0):Z:=
lt (ilt x.2.2.2.2.1 x.2.2.2.1) fun v1334=>
bif v1334 then
lt (x.1.getD x.2.2.2.2.1.toNat 0) fun (v1335:Int)=>
rq (ile (0:Int) x.2.2.2.2.1&&ilt x.2.2.2.2.1 (x.1.length:Int))<|
lt (iy.r v1335 y.1) fun w1338=>
rq w1338.1<|
bif w1338.2.1 then
kr (x.2.2.2.2.1,()) (w1338.2.2,())
else
lt (IntKind.i64.wrap (x.2.2.2.2.1+1)) fun v1339=>
kn (x.1,(),x.2.2.1,x.2.2.2.1,v1339,()) (w1338.2.2,())
else
ke 0 (x.1,(),x.2.2.1,x.2.2.2.1,x.2.2.2.2.1,()) (y.1,())
def fu0 (x:X0) (y:Y0):Nat:=(x.2.2.2.1 - x.2.2.2.2.1).toNat+1
def l0 (x:X0) (y:Y0):Bool×Nat×X0×Y0×U0×V0:=rounds (fun rq kn ke kr x y=>g0 rq kn ke kr x y) (0,()) (0,()) (fu0 x y) x y
def g {Z:Type} (rq:Bool→Z→Z) (rt:X→Z) (s:(List Int)) (b:Int):Z:=
lt (s.length:Int) fun (v1332:Int)=>
lt (bY.l0 (s,(),0,v1332,0,()) (b,())) fun w1340=>
rq w1340.1<|
bif Nat.beq w1340.2.1 0 then
rt (w1340.2.2.2.2.1.1,w1340.2.2.2.2.2.1)
else
rt ((-1),w1340.2.2.2.1.1)
def r (s:(List Int)) (b:Int):Bool×X:=g chk (fun x=>(true,x)) s b
def D:aH:=Dof (P:=Tryz.prog) [iy.ent]
abbrev lf0:=dw (R:=Res) [0,1] (rounds (fun rq kn ke kr x y=>g0 rq kn ke kr x y) (0,()) (0,())) fu0
def tab:List (Nat×LE Res):= [(3,.typed (eY 19 sh0 bx0 aY aX aZ (lf0)))]
theorem bV:Nonempty (Told E0 D tab Tryz.f134.ntmps (aG (codeOf Tryz.f134) 0) 19 sh0 bx0 aY aX aZ lf0):=fH (sh:=sh0) (bx:=bx0) (ord:=aY) (shR:=aX) (bxR:=aZ) bX (by kernel_rfl) (by kernel_rfl) (by kernel_rfl) [0,1] _ _ _ @g0 (fun _ _ _ _ _=>by kernel_rfl) (by
  intro _ _ _ _ _ _ _ h i k x y
  simp only [g0]
  with_reducible repeat (first|(apply J.lt; intro _)|apply J.rq|apply J.bif|exact h _ _|exact i _ (by decide) _ _|exact k (by decide) _ _))
theorem bW:fQ E0 D tab Tryz.f134.ntmps (codeOf Tryz.f134):=bT (bs:= [aG (codeOf Tryz.f134) 0]) (by kernel_rfl) (aF (bP (by kernel_rfl) (bV)) aO)
abbrev aS:List AS:= [.one (.val (.sl (.int .i64))),.clo 108 [.pb 1000000 (.int .i64) []]]
abbrev bS:List Ty:= [.int .i64]
def ent:Ent Tryz.prog:=bH (D:=D) (tab:=tab) hE0 (ay _) [true] Tryz.func134 (by kernel_rfl) bW aS bS res (fun x y=>r x.1 y.1) (fun x y=>g (fun c z=>req c z) (fun x=>some (res x)) x.1 y.1) (fun _ _=>by kernel_rfl) (by
 intro x y
 show J _ (g chk (fun x=>(true,x)) x.1 y.1) (g (fun c z=>req c z) (fun x=>some (res x)) x.1 y.1)
 unfold g
 with_reducible repeat (first|(apply J.lt; intro _)|apply J.rq|apply J.bif|exact J.rt rfl))
end bY
namespace fT
abbrev X:Type:=Bool×Int
def res (x:Bool×Int):Res:=⟨[.val ⟨.bool,x.1⟩],[some ⟨.int .i64,x.2⟩],[]⟩
def g {Z:Type} (rq:Bool→Z→Z) (rt:X→Z) (s:(List Int)) (b:Int):Z:=
lt (bY.r s b) fun w1341=>
rq w1341.1<|
lt (ile 0 w1341.2.1) fun v1342=>
rt (v1342,w1341.2.2)
def r (s:(List Int)) (b:Int):Bool×X:=g chk (fun x=>(true,x)) s b
def D:aH:=Dof (P:=Tryz.prog) [bY.ent]
def tab:List (Nat×LE Res):= []
abbrev aS:List AS:= [.one (.val (.sl (.int .i64))),.clo 108 [.pb 1000000 (.int .i64) []]]
abbrev bS:List Ty:= [.int .i64]
def ent:Ent Tryz.prog:=bH (D:=D) (tab:=tab) hE0 (ay _) [true] Tryz.func107 (by kernel_rfl) aC aS bS res (fun x y=>r x.1 y.1) (fun x y=>g (fun c z=>req c z) (fun x=>some (res x)) x.1 y.1) (fun _ _=>by kernel_rfl) (by
 intro x y
 show J _ (g chk (fun x=>(true,x)) x.1 y.1) (g (fun c z=>req c z) (fun x=>some (res x)) x.1 y.1)
 unfold g
 with_reducible repeat (first|(apply J.lt; intro _)|apply J.rq|apply J.bif|exact J.rt rfl))
end fT
namespace kE
abbrev X:Type:=Bool
def res (x:Bool):Res:=⟨[.val ⟨.bool,x⟩],[],[]⟩
def g {Z:Type} (rq:Bool→Z→Z) (rt:X→Z) (l:(List Int)) (least:Int):Z:=
lt (fT.r l least) fun w1343=>
rq w1343.1<|
rt w1343.2.1
def r (l:(List Int)) (least:Int):Bool×X:=g chk (fun x=>(true,x)) l least
def D:aH:=Dof (P:=Tryz.prog) [fT.ent]
def tab:List (Nat×LE Res):= []
abbrev aS:List AS:= [.one (.val (.sl (.int .i64))),.one (.val (.int .i64))]
abbrev bS:List Ty:= []
def ent:Ent Tryz.prog:=bH (D:=D) (tab:=tab) hE0 (ay _) [true] Tryz.func76 (by kernel_rfl) aC aS bS res (fun x y=>r x.1 x.2.1) (fun x y=>g (fun c z=>req c z) (fun x=>some (res x)) x.1 x.2.1) (fun _ _=>by kernel_rfl) (by
 intro x y
 show J _ (g chk (fun x=>(true,x)) x.1 x.2.1) (g (fun c z=>req c z) (fun x=>some (res x)) x.1 x.2.1)
 unfold g
 with_reducible repeat (first|(apply J.lt; intro _)|apply J.rq|apply J.bif|exact J.rt rfl))
end kE
namespace iO
abbrev X:Type:=(Bool×List Int)
def res (x:(Bool×List Int)):Res:=⟨[.va 1000000 (.int .i64)],[],[⟨.dyn (.int .i64),x⟩]⟩
def brn (w:Bool×X):Brn Res:= .one w.1 (res w.2)
theorem cB (w:Bool×X):(brn w).res=(w.1,res w.2):=rfl
def g {Z:Type} (rq:Bool→Z→Z) (rt:X→Z) (s:(List Int)):Z:=
rq (!s.isEmpty)<|
rq (nle ((2*(0+s.length)+512)*8) 70368744177664)<|
rt (false,s)
def r (s:(List Int)):Bool×X:=g chk (fun x=>(true,x)) s
def D:aH:=Dof (P:=Tryz.prog) []
def tab:List (Nat×LE Res):= []
theorem run (s:(List Int)):gL E0 [false] D (iG E0 D tab 9) Tryz.f109 (codeOf Tryz.f109) [.val ⟨.sl (.int .i64),s⟩] []=g (fun c z=>req c z) (fun x=>some (res x)) s:=by kernel_rfl
theorem rel (s:(List Int)):J (fun w z=>z=some (res w)) (g chk (fun x=>(true,x)) s) (g (fun c z=>req c z) (fun x=>some (res x)) s):=by
 unfold g
 with_reducible repeat (first|(apply J.lt; intro _)|apply J.rq|apply J.bif|exact J.rt rfl)
theorem ok:nA Tryz.f109=true:=by kernel_rfl
abbrev aS:List AS:= [.one (.val (.sl (.int .i64)))]
abbrev bS:List Ty:= []
def F (x:ASs aS) (y:Bs bS):Brn Res:=brn (r x.1)
theorem good (x:ASs aS) (y:Bs bS) (h:(F x y).res.1=true):Good Tryz.prog 109 (ASs.mk aS x) (Bs.mk bS y) (F x y).res.2:=
 fP hE0 (ay _) Tryz.func109 ok aC cB (run x.1) (rel x.1) h
def ent:Ent Tryz.prog:=⟨109,shF aS bS F,bM good⟩
theorem Ry (ad:Option Addr) (cap:Nat) (w:World):(Go.binOp .eql 30 (.slice ad 0 cap) (.slice none 0 0)).run Tryz.prog w= .ok (.bool ad.isNone) w:=by cases ad<;>kernel_rfl
theorem empty (ad:Option Addr) (cap:Nat) (w:World):Calls Tryz.prog 109 #[.slice ad 0 cap] w fun e w2=>(∃ ad2 cap2,e= .returned (.slice ad2 0 cap2))∧lg w w2:=by
 cases ad with
 |none=>
  go_enter Tryz.func109,Tryz.ntmps109
  go_wp2
  rw [Ry]
  go_wp2
  go_ret
  exact ⟨⟨_,_,rfl⟩,lg.refl _⟩
 |some ad=>
  go_enter Tryz.func109,Tryz.ntmps109
  go_wp2
  rw [Ry]
  go_wp2
  go_ret
  exact ⟨⟨_,_,rfl⟩,lg.alloc _ _⟩
def UB:Ent Tryz.prog:=⟨109,shF [.one (.val (.sl (.int .i64)))] [] (Jp (.int .i64) F),bM (GR (zb Tryz.func109 (by kernel_rfl) (by kernel_rfl) (by decide) empty) good)⟩
end iO
namespace gN
abbrev X:Type:=(List Int)
def res (x:(List Int)):Res:=⟨[.val ⟨.sl (.int .i64),x⟩],[],[]⟩
abbrev sh1:List (Nat×Sh):= [(0,.p (.sl (.int .i64))),(2,.nil),(3,.p (.int .i64)),(4,.p (.sl (.int .i64))),(5,.p (.int .i64))]
abbrev bx1:List (Nat×Ty):= []
abbrev nI:List (Nat×Ty):= []
abbrev nG:List (Nat×Sh):= []
abbrev nS:List (Nat×Ty):= []
abbrev rQ:List (Nat×Ty):= []
abbrev X1:Type:=(List Int)×Unit×Int×(List Int)×Int×Unit
abbrev Y1:Type:=Unit
abbrev U1:Type:=Unit
abbrev V1:Type:=Unit
def g1 {Z:Type} (rq:Bool→Z→Z) (kn:X1→Y1→Z) (ke:Nat→X1→Y1→Z) (kr:U1→V1→Z) (x:X1) (y:Y1):Z:=
lt (x.2.2.2.1.length:Int) fun (v1358:Int)=>
lt (ilt x.2.2.2.2.1 v1358) fun v1359=>
bif v1359 then
lt (x.2.2.2.1.getD x.2.2.2.2.1.toNat 0) fun (v1360:Int)=>
rq (ile (0:Int) x.2.2.2.2.1&&ilt x.2.2.2.2.1 (x.2.2.2.1.length:Int))<|
lt (IntKind.i64.wrap (x.2.2.2.2.1 - 1)) fun v1361=>
lt (x.2.2.2.1.getD v1361.toNat 0) fun (v1362:Int)=>
rq (ile (0:Int) v1361&&ilt v1361 (x.2.2.2.1.length:Int))<|
lt (v1360 != v1362) fun (v1363:Bool)=>
bif v1363 then
lt (x.2.2.2.1.getD x.2.2.2.2.1.toNat 0) fun (v1364:Int)=>
rq (ile (0:Int) x.2.2.2.2.1&&ilt x.2.2.2.2.1 (x.2.2.2.1.length:Int))<|
lt (x.1.getD x.2.2.1.toNat 0) fun (v1365:Int)=>
rq (ile (0:Int) x.2.2.1&&ilt x.2.2.1 (x.1.length:Int))<|
rq false<|kn x y
else
lt (IntKind.i64.wrap (x.2.2.2.2.1+1)) fun v1366=>
kn (x.1,(),x.2.2.1,x.2.2.2.1,v1366,()) ()
else
ke 2 (x.1,(),x.2.2.1,x.2.2.2.1,x.2.2.2.2.1,()) ()
def fu1 (x:X1) (y:Y1):Nat:=((x.2.2.2.1.length:Int) - x.2.2.2.2.1).toNat+1
def l1 (x:X1) (y:Y1):Bool×Nat×X1×Y1×U1×V1:=rounds (fun rq kn ke kr x y=>g1 rq kn ke kr x y) () () (fu1 x y) x y
abbrev sh0:List (Nat×Sh):= [(0,.p (.sl (.int .i64))),(2,.nil),(3,.p (.int .i64))]
abbrev bx0:List (Nat×Ty):= []
abbrev aY:List (Nat×Ty):= []
abbrev aX:List (Nat×Sh):= []
abbrev aZ:List (Nat×Ty):= []
abbrev bX:List (Nat×Ty):= []
abbrev X0:Type:=(List Int)×Unit×Int×Unit
abbrev Y0:Type:=Unit
abbrev U0:Type:=Unit
abbrev V0:Type:=Unit
def g0 {Z:Type} (rq:Bool→Z→Z) (kn:X0→Y0→Z) (ke:Nat→X0→Y0→Z) (kr:U0→V0→Z) (x:X0) (y:Y0):Z:=
lt (x.1.length:Int) fun (v1349:Int)=>
lt (ilt x.2.2.1 v1349) fun v1350=>
bif v1350 then
lt (x.1.getD x.2.2.1.toNat 0) fun (v1351:Int)=>
rq (ile (0:Int) x.2.2.1&&ilt x.2.2.1 (x.1.length:Int))<|
lt (IntKind.i64.wrap (x.2.2.1 - 1)) fun v1352=>
lt (x.1.getD v1352.toNat 0) fun (v1353:Int)=>
rq (ile (0:Int) v1352&&ilt v1352 (x.1.length:Int))<|
lt (v1351== v1353) fun (v1354:Bool)=>
bif v1354 then
lt ((x.1.drop x.2.2.1.toNat).take ((x.1.length:Int).toNat - x.2.2.1.toNat)) fun (v1355:(List Int))=>
rq ((ile (0:Int) x.2.2.1&&ile x.2.2.1 (x.1.length:Int))&&ile (x.1.length:Int) (x.1.length:Int))<|
lt (gN.l1 (x.1,(),x.2.2.1,v1355,1,()) ()) fun w1367=>
rq w1367.1<|
lt ((w1367.2.2.1.1.drop w1367.2.2.1.2.2.1.toNat).take ((w1367.2.2.1.1.length:Int).toNat - w1367.2.2.1.2.2.1.toNat)) fun (v1368:(List Int))=>
rq ((ile (0:Int) w1367.2.2.1.2.2.1&&ile w1367.2.2.1.2.2.1 (w1367.2.2.1.1.length:Int))&&ile (w1367.2.2.1.1.length:Int) (w1367.2.2.1.1.length:Int))<|
rq false<|kn x y
else
lt (IntKind.i64.wrap (x.2.2.1+1)) fun v1369=>
kn (x.1,(),v1369,()) ()
else
ke 0 (x.1,(),x.2.2.1,()) ()
def fu0 (x:X0) (y:Y0):Nat:=((x.1.length:Int) - x.2.2.1).toNat+1
def l0 (x:X0) (y:Y0):Bool×Nat×X0×Y0×U0×V0:=rounds (fun rq kn ke kr x y=>g0 rq kn ke kr x y) () () (fu0 x y) x y
def g {Z:Type} (rq:Bool→Z→Z) (rt:X→Z) (s:(List Int)):Z:=
lt (s.length:Int) fun (v1345:Int)=>
lt (ilt v1345 2) fun v1346=>
bif v1346 then
rt s
else
lt (gN.l0 (s,(),1,()) ()) fun w1370=>
rq w1370.1<|
rt w1370.2.2.1.1
def r (s:(List Int)):Bool×X:=g chk (fun x=>(true,x)) s
def D:aH:=Dof (P:=Tryz.prog) []
abbrev lf1:=dw (R:=Res) [3] (rounds (fun rq kn ke kr x y=>g1 rq kn ke kr x y) () ()) fu1
abbrev lf0:=dw (R:=Res) [1] (rounds (fun rq kn ke kr x y=>g0 rq kn ke kr x y) () ()) fu0
def tab:List (Nat×LE Res):= [(10,.typed (eY 61 sh1 bx1 nI nG nS (lf1))),(5,.typed (eY 61 sh0 bx0 aY aX aZ (lf0)))]
theorem rf:Nonempty (Told E0 D tab Tryz.f111.ntmps (aG (codeOf Tryz.f111) 1) 61 sh1 bx1 nI nG nS lf1):=fH (sh:=sh1) (bx:=bx1) (ord:=nI) (shR:=nG) (bxR:=nS) rQ (by kernel_rfl) (by kernel_rfl) (by kernel_rfl) [3] _ _ _ @g1 (fun _ _ _ _ _=>by kernel_rfl) (by
  intro _ _ _ _ _ _ _ h i k x y
  simp only [g1]
  with_reducible repeat (first|(apply J.lt; intro _)|apply J.rq|apply J.bif|exact h _ _|exact i _ (by decide) _ _|exact k (by decide) _ _))
theorem bV:Nonempty (Told E0 D tab Tryz.f111.ntmps (aG (codeOf Tryz.f111) 0) 61 sh0 bx0 aY aX aZ lf0):=fH (sh:=sh0) (bx:=bx0) (ord:=aY) (shR:=aX) (bxR:=aZ) bX (by kernel_rfl) (by kernel_rfl) (by kernel_rfl) [1] _ _ _ @g0 (fun _ _ _ _ _=>by kernel_rfl) (by
  intro _ _ _ _ _ _ _ h i k x y
  simp only [g0]
  with_reducible repeat (first|(apply J.lt; intro _)|apply J.rq|apply J.bif|exact h _ _|exact i _ (by decide) _ _|exact k (by decide) _ _))
theorem bW:fQ E0 D tab Tryz.f111.ntmps (codeOf Tryz.f111):=bT (bs:= [aG (codeOf Tryz.f111) 0,aG (codeOf Tryz.f111) 1]) (by kernel_rfl) (aF (bP (by kernel_rfl) (bV)) (aF (bP (by kernel_rfl) (rf)) aO))
abbrev aS:List AS:= [.one (.val (.sl (.int .i64)))]
abbrev bS:List Ty:= []
def ent:Ent Tryz.prog:=bH (D:=D) (tab:=tab) hE0 (ay _) [true] Tryz.func111 (by kernel_rfl) bW aS bS res (fun x y=>r x.1) (fun x y=>g (fun c z=>req c z) (fun x=>some (res x)) x.1) (fun _ _=>by kernel_rfl) (by
 intro x y
 show J _ (g chk (fun x=>(true,x)) x.1) (g (fun c z=>req c z) (fun x=>some (res x)) x.1)
 unfold g
 with_reducible repeat (first|(apply J.lt; intro _)|apply J.rq|apply J.bif|exact J.rt rfl))
end gN
namespace aD
abbrev X:Type:=(List Int)
def res (x:(List Int)):Res:=⟨[.val ⟨.sl (.int .i64),x⟩],[none],[]⟩
abbrev sh1:List (Nat×Sh):= [(0,.va 1000000 (.int .i64)),(2,.nil),(3,.p (.int .i64)),(4,.vs 1000000 (.int .i64) []),(5,.p (.int .i64))]
abbrev bx1:List (Nat×Ty):= [(1000000,.dyn (.int .i64))]
abbrev nI:List (Nat×Ty):= [(1000000,.dyn (.int .i64))]
abbrev nG:List (Nat×Sh):= []
abbrev nS:List (Nat×Ty):= []
abbrev rQ:List (Nat×Ty):= []
abbrev X1:Type:=Unit×Unit×Int×(Nat×Nat)×Int×Unit
abbrev Y1:Type:=(Bool×List Int)×Unit
abbrev U1:Type:=Unit
abbrev V1:Type:=Unit
def g1 {Z:Type} (rq:Bool→Z→Z) (kn:X1→Y1→Z) (ke:Nat→X1→Y1→Z) (kr:U1→V1→Z) (x:X1) (y:Y1):Z:=
lt ((x.2.2.2.1.2:Nat):Int) fun (v1390:Int)=>
lt (ilt x.2.2.2.2.1 v1390) fun v1391=>
bif v1391 then
lt ((x.2.2.2.1.1+x.2.2.2.2.1.toNat)) fun (n1392:Nat)=>
rq (ile (0:Int) x.2.2.2.2.1&&ilt x.2.2.2.2.1 ((x.2.2.2.1.2:Nat):Int))<|
lt (y.1.2.getD n1392 0) fun (v1393:Int)=>
lt (IntKind.i64.wrap (x.2.2.2.2.1 - 1)) fun v1394=>
lt ((x.2.2.2.1.1+v1394.toNat)) fun (n1395:Nat)=>
rq (ile (0:Int) v1394&&ilt v1394 ((x.2.2.2.1.2:Nat):Int))<|
lt (y.1.2.getD n1395 0) fun (v1396:Int)=>
lt (v1393 != v1396) fun (v1397:Bool)=>
bif v1397 then
lt ((x.2.2.2.1.1+x.2.2.2.2.1.toNat)) fun (n1398:Nat)=>
rq (ile (0:Int) x.2.2.2.2.1&&ilt x.2.2.2.2.1 ((x.2.2.2.1.2:Nat):Int))<|
lt (y.1.2.getD n1398 0) fun (v1399:Int)=>
rq (ile (0:Int) x.2.2.1&&ilt x.2.2.1 (y.1.2.length:Int))<|
lt (y.1.2.set x.2.2.1.toNat v1399) fun (v1400:(List Int))=>
lt (IntKind.i64.wrap (x.2.2.1+1)) fun v1401=>
lt (IntKind.i64.wrap (x.2.2.2.2.1+1)) fun v1402=>
kn ((),(),v1401,(x.2.2.2.1.1,x.2.2.2.1.2),v1402,()) ((y.1.1,v1400),())
else
lt (IntKind.i64.wrap (x.2.2.2.2.1+1)) fun v1403=>
kn ((),(),x.2.2.1,(x.2.2.2.1.1,x.2.2.2.1.2),v1403,()) (y.1,())
else
ke 2 ((),(),x.2.2.1,(x.2.2.2.1.1,x.2.2.2.1.2),x.2.2.2.2.1,()) (y.1,())
def fu1 (x:X1) (y:Y1):Nat:=(((x.2.2.2.1.2:Nat):Int) - x.2.2.2.2.1).toNat+1
def l1 (x:X1) (y:Y1):Bool×Nat×X1×Y1×U1×V1:=rounds (fun rq kn ke kr x y=>g1 rq kn ke kr x y) () () (fu1 x y) x y
abbrev sh0:List (Nat×Sh):= [(0,.va 1000000 (.int .i64)),(2,.nil),(3,.p (.int .i64))]
abbrev bx0:List (Nat×Ty):= [(1000000,.dyn (.int .i64))]
abbrev aY:List (Nat×Ty):= [(1000000,.dyn (.int .i64))]
abbrev aX:List (Nat×Sh):= [(2,.vs 1000000 (.int .i64) [])]
abbrev aZ:List (Nat×Ty):= [(1000000,.dyn (.int .i64))]
abbrev bX:List (Nat×Ty):= [(1000000,.dyn (.int .i64))]
abbrev X0:Type:=Unit×Unit×Int×Unit
abbrev Y0:Type:=(Bool×List Int)×Unit
abbrev U0:Type:=(Nat×Nat)×Unit
abbrev V0:Type:=(Bool×List Int)×Unit
def g0 {Z:Type} (rq:Bool→Z→Z) (kn:X0→Y0→Z) (ke:Nat→X0→Y0→Z) (kr:U0→V0→Z) (x:X0) (y:Y0):Z:=
lt (y.1.2.length:Int) fun (v1381:Int)=>
lt (ilt x.2.2.1 v1381) fun v1382=>
bif v1382 then
rq (ile (0:Int) x.2.2.1&&ilt x.2.2.1 (y.1.2.length:Int))<|
lt (y.1.2.getD x.2.2.1.toNat 0) fun (v1383:Int)=>
lt (IntKind.i64.wrap (x.2.2.1 - 1)) fun v1384=>
rq (ile (0:Int) v1384&&ilt v1384 (y.1.2.length:Int))<|
lt (y.1.2.getD v1384.toNat 0) fun (v1385:Int)=>
lt (v1383== v1385) fun (v1386:Bool)=>
bif v1386 then
lt (((y.1.2.length:Int).toNat - x.2.2.1.toNat)) fun (n1387:Nat)=>
rq ((ile (0:Int) x.2.2.1&&ile x.2.2.1 (y.1.2.length:Int))&&ile (y.1.2.length:Int) (y.1.2.length:Int))<|
lt (aD.l1 ((),(),x.2.2.1,(x.2.2.1.toNat,n1387),1,()) (y.1,())) fun w1404=>
rq w1404.1<|
lt (((w1404.2.2.2.1.1.2.length:Int).toNat - w1404.2.2.1.2.2.1.toNat)) fun (n1405:Nat)=>
rq ((ile (0:Int) w1404.2.2.1.2.2.1&&ile w1404.2.2.1.2.2.1 (w1404.2.2.2.1.1.2.length:Int))&&ile (w1404.2.2.2.1.1.2.length:Int) (w1404.2.2.2.1.1.2.length:Int))<|
lt (over w1404.2.2.2.1.1.2 w1404.2.2.1.2.2.1.toNat (List.replicate n1405 0)) fun (v1406:(List Int))=>
rq (ile (0:Int) w1404.2.2.1.2.2.1&&ile w1404.2.2.1.2.2.1 (v1406.length:Int))<|
kr ((0,w1404.2.2.1.2.2.1.toNat),()) ((w1404.2.2.2.1.1.1,v1406),())
else
lt (IntKind.i64.wrap (x.2.2.1+1)) fun v1407=>
kn ((),(),v1407,()) (y.1,())
else
ke 0 ((),(),x.2.2.1,()) (y.1,())
def fu0 (x:X0) (y:Y0):Nat:=((y.1.2.length:Int) - x.2.2.1).toNat+1
def l0 (x:X0) (y:Y0):Bool×Nat×X0×Y0×U0×V0:=rounds (fun rq kn ke kr x y=>g0 rq kn ke kr x y) ((0,0),()) ((true,[]),()) (fu0 x y) x y
def g {Z:Type} (rq:Bool→Z→Z) (rt:X→Z) (b:(Bool×List Int)):Z:=
lt (b.2.length:Int) fun (v1377:Int)=>
lt (ilt v1377 2) fun v1378=>
bif v1378 then
rt b.2
else
lt (aD.l0 ((),(),1,()) (b,())) fun w1408=>
rq w1408.1<|
bif Nat.beq w1408.2.1 0 then
rt ((w1408.2.2.2.2.2.1.2.drop w1408.2.2.2.2.1.1.1).take w1408.2.2.2.2.1.1.2)
else
rt w1408.2.2.2.1.1.2
def r (b:(Bool×List Int)):Bool×X:=g chk (fun x=>(true,x)) b
def D:aH:=Dof (P:=Tryz.prog) []
abbrev lf1:=dw (R:=Res) [3] (rounds (fun rq kn ke kr x y=>g1 rq kn ke kr x y) () ()) fu1
abbrev lf0:=dw (R:=Res) [0,1] (rounds (fun rq kn ke kr x y=>g0 rq kn ke kr x y) ((0,0),()) ((true,[]),())) fu0
def tab:List (Nat×LE Res):= [(10,.typed (eY 61 sh1 bx1 nI nG nS (lf1))),(5,.typed (eY 61 sh0 bx0 aY aX aZ (lf0)))]
theorem rf:Nonempty (Told E0 D tab Tryz.f111.ntmps (aG (codeOf Tryz.f111) 1) 61 sh1 bx1 nI nG nS lf1):=fH (sh:=sh1) (bx:=bx1) (ord:=nI) (shR:=nG) (bxR:=nS) rQ (by kernel_rfl) (by kernel_rfl) (by kernel_rfl) [3] _ _ _ @g1 (fun _ _ _ _ _=>by kernel_rfl) (by
  intro _ _ _ _ _ _ _ h i k x y
  simp only [g1]
  with_reducible repeat (first|(apply J.lt; intro _)|apply J.rq|apply J.bif|exact h _ _|exact i _ (by decide) _ _|exact k (by decide) _ _))
theorem bV:Nonempty (Told E0 D tab Tryz.f111.ntmps (aG (codeOf Tryz.f111) 0) 61 sh0 bx0 aY aX aZ lf0):=fH (sh:=sh0) (bx:=bx0) (ord:=aY) (shR:=aX) (bxR:=aZ) bX (by kernel_rfl) (by kernel_rfl) (by kernel_rfl) [0,1] _ _ _ @g0 (fun _ _ _ _ _=>by kernel_rfl) (by
  intro _ _ _ _ _ _ _ h i k x y
  simp only [g0]
  with_reducible repeat (first|(apply J.lt; intro _)|apply J.rq|apply J.bif|exact h _ _|exact i _ (by decide) _ _|exact k (by decide) _ _))
theorem bW:fQ E0 D tab Tryz.f111.ntmps (codeOf Tryz.f111):=bT (bs:= [aG (codeOf Tryz.f111) 0,aG (codeOf Tryz.f111) 1]) (by kernel_rfl) (aF (bP (by kernel_rfl) (bV)) (aF (bP (by kernel_rfl) (rf)) aO))
abbrev aS:List AS:= [.one (.va 1000000 (.int .i64))]
abbrev bS:List Ty:= [.dyn (.int .i64)]
def ent:Ent Tryz.prog:=bH (D:=D) (tab:=tab) hE0 (ay _) [true] Tryz.func111 (by kernel_rfl) bW aS bS res (fun x y=>r y.1) (fun x y=>g (fun c z=>req c z) (fun x=>some (res x)) y.1) (fun _ _=>by kernel_rfl) (by
 intro x y
 show J _ (g chk (fun x=>(true,x)) y.1) (g (fun c z=>req c z) (fun x=>some (res x)) y.1)
 unfold g
 with_reducible repeat (first|(apply J.lt; intro _)|apply J.rq|apply J.bif|exact J.rt rfl))
end aD
namespace mG
abbrev X:Type:=Bool
def res (x:Bool):Res:=⟨[.val ⟨.bool,x⟩],[],[]⟩
def g {Z:Type} (rq:Bool→Z→Z) (rt:X→Z) (l:(List Int)):Z:=
bif l.isEmpty then
lt (gN.r []) fun w1371=>
rq w1371.1<|
lt (w1371.2.length:Int) fun (v1372:Int)=>
lt (l.length:Int) fun (v1373:Int)=>
lt (ilt v1372 v1373) fun v1374=>
rt v1374
else
lt (iO.r l) fun w1375=>
rq w1375.1<|
rq (nlt w1375.2.2.length 4611686018427387904)<|
lt (Ce w1375.2.2) fun (v1376:(List Int))=>
lt (aD.r (w1375.2.1,v1376)) fun w1409=>
rq w1409.1<|
lt (w1409.2.length:Int) fun (v1410:Int)=>
lt (l.length:Int) fun (v1411:Int)=>
lt (ilt v1410 v1411) fun v1412=>
rt v1412
def r (l:(List Int)):Bool×X:=g chk (fun x=>(true,x)) l
def D:aH:=Dof (P:=Tryz.prog) [iO.UB,rX,Np gN.ent (aD.ent) rfl]
def tab:List (Nat×LE Res):= []
abbrev aS:List AS:= [.one (.val (.sl (.int .i64)))]
abbrev bS:List Ty:= []
def ent:Ent Tryz.prog:=bH (D:=D) (tab:=tab) hE0 (ay _) [true] Tryz.func77 (by kernel_rfl) aC aS bS res (fun x y=>r x.1) (fun x y=>g (fun c z=>req c z) (fun x=>some (res x)) x.1) (fun _ _=>by kernel_rfl) (by
 intro x y
 show J _ (g chk (fun x=>(true,x)) x.1) (g (fun c z=>req c z) (fun x=>some (res x)) x.1)
 unfold g
 with_reducible repeat (first|(apply J.lt; intro _)|apply J.rq|apply J.bif|exact J.rt rfl))
end mG
namespace jf
abbrev X:Type:=(List Int)
def res (x:(List Int)):Res:=⟨[.val ⟨.arr 4 (.int .u64),x⟩],[],[]⟩
def g {Z:Type} (rq:Bool→Z→Z) (rt:X→Z) (rx:(Option aJ)) (a:(List Int)) (b:(List Int)):Z:=
lt (dS.r rx) fun w1454=>
rq w1454.1<|
lt (!w1454.2) fun (v1455:Bool)=>
bif v1455 then
rt [0,0,0,0]
else
lt (iP.r rx a) fun w1456=>
rq w1456.1<|
lt (je.r rx b) fun w1457=>
rq w1457.1<|
lt (bE.r rx w1456.2 w1457.2) fun w1458=>
rq w1458.1<|
rt w1458.2
def r (rx:(Option aJ)) (a:(List Int)) (b:(List Int)):Bool×X:=g chk (fun x=>(true,x)) rx a b
def D:aH:=Dof (P:=Tryz.prog) [dS.ent,iP.ent,je.ent,bE.ent]
def tab:List (Nat×LE Res):= []
abbrev aS:List AS:= [.one (.val (.ref eF)),.one (.val (.arr 4 (.int .u64))),.one (.val (.arr 4 (.int .u64)))]
abbrev bS:List Ty:= []
def ent:Ent Tryz.prog:=bH (D:=D) (tab:=tab) hE0 (ay _) [true] Tryz.func117 (by kernel_rfl) aC aS bS res (fun x y=>r x.1 x.2.1 x.2.2.1) (fun x y=>g (fun c z=>req c z) (fun x=>some (res x)) x.1 x.2.1 x.2.2.1) (fun _ _=>by kernel_rfl) (by
 intro x y
 show J _ (g chk (fun x=>(true,x)) x.1 x.2.1 x.2.2.1) (g (fun c z=>req c z) (fun x=>some (res x)) x.1 x.2.1 x.2.2.1)
 unfold g
 with_reducible repeat (first|(apply J.lt; intro _)|apply J.rq|apply J.bif|exact J.rt rfl))
end jf
namespace gY
abbrev X:Type:=(List Int)
def res (x:(List Int)):Res:=⟨[.val ⟨.arr 4 (.int .u64),x⟩],[],[]⟩
def g {Z:Type} (rq:Bool→Z→Z) (rt:X→Z) (gx:(Option af)) (a:(List Int)) (b:(List Int)):Z:=
lt (bA.r gx) fun w1453=>
rq w1453.1<|
lt (jf.r w1453.2 a b) fun w1459=>
rq w1459.1<|
rt w1459.2
def r (gx:(Option af)) (a:(List Int)) (b:(List Int)):Bool×X:=g chk (fun x=>(true,x)) gx a b
def D:aH:=Dof (P:=Tryz.prog) [bA.ent,jf.ent]
def tab:List (Nat×LE Res):= []
abbrev aS:List AS:= [.one (.val (.ref ak)),.one (.val (.arr 4 (.int .u64))),.one (.val (.arr 4 (.int .u64)))]
abbrev bS:List Ty:= []
def ent:Ent Tryz.prog:=bH (D:=D) (tab:=tab) hE0 (ay _) [true] Tryz.func79 (by kernel_rfl) aC aS bS res (fun x y=>r x.1 x.2.1 x.2.2.1) (fun x y=>g (fun c z=>req c z) (fun x=>some (res x)) x.1 x.2.1 x.2.2.1) (fun _ _=>by kernel_rfl) (by
 intro x y
 show J _ (g chk (fun x=>(true,x)) x.1 x.2.1 x.2.2.1) (g (fun c z=>req c z) (fun x=>some (res x)) x.1 x.2.1 x.2.2.1)
 unfold g
 with_reducible repeat (first|(apply J.lt; intro _)|apply J.rq|apply J.bif|exact J.rt rfl))
end gY
end Go.Own
