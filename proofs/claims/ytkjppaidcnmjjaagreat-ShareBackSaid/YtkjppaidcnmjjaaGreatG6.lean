/- What functions compute, printed by wip/gen/gen2.py. -/
import Derived.Test.YtkjppaidcnmjjaaGreatG5
set_option linter.unusedVariables false
set_option linter.unusedSimpArgs false
namespace Go.Own
open Go.Proofs Go.Proofs.YtkjppaidcnmjjaaGreat
namespace bZ
abbrev X:Type:=(List bL)×Int
noncomputable def res (x:(List bL)×Int):Res:=⟨[.val ⟨.sl dM,x.1⟩,.val ⟨.int .i64,x.2⟩],[],[]⟩
noncomputable def brn (w:Bool×X):Brn Res:= .one w.1 (res w.2)
theorem aj (w:Bool×X):(brn w).res=(w.1,res w.2):=rfl
abbrev sh0:List (Nat×Sh):= [(0,.p (.ref au)),(1,.p (.sl (.arr 4 (.int .u64)))),(6,.nil),(7,.p (.int .i64)),(8,.va 500000 dM),(21,.p (.int .i64)),(22,.p (.int .i64))]
abbrev bx0:List (Nat×Ty):= [(500000,.dyn dM)]
abbrev aW:List (Nat×Ty):= [(500000,.dyn dM)]
abbrev aM:List (Nat×Sh):= []
abbrev aN:List (Nat×Ty):= []
abbrev bC:List (Nat×Ty):= []
abbrev X0:Type:=(Option ai)×(List (List Int))×Unit×Int×Unit×Int×Int×Unit
abbrev Y0:Type:=(Bool×List bL)×Unit
abbrev U0:Type:=Unit
abbrev V0:Type:=Unit
noncomputable def g0 {Z:Type} (rq:Bool→Z→Z) (kn:X0→Y0→Z) (ke:Nat→X0→Y0→Z) (kr:U0→V0→Z) (x:X0) (y:Y0):Z:=
lt (ilt x.2.2.2.2.2.2.1 x.2.2.2.2.2.1) fun v1233=>
bif v1233 then
lt (IntKind.i64.wrap (x.2.2.2.2.2.2.1+1)) fun v1234=>
lt (IntKind.i64.wrap (x.2.2.2.2.2.2.1+1)) fun v1235=>
lt (eO.r v1235) fun w1236=>
rq w1236.1<|
lt (iG.r x.1 x.2.1 w1236.2) fun w1237=>
rq w1237.1<|
lt (y.1.1&&false) fun (v1238:Bool)=>
lt (y.1.2++ [(v1234,(w1237.2,()))]) fun (v1239:(List bL))=>
rq (nle ((2*(y.1.2.length+1)+512)*40) 70368744177664)<|
lt (IntKind.i64.wrap (x.2.2.2.2.2.2.1+1)) fun v1240=>
kn (x.1,x.2.1,(),x.2.2.2.1,(),x.2.2.2.2.2.1,v1240,()) ((v1238,v1239),())
else
ke 0 (x.1,x.2.1,(),x.2.2.2.1,(),x.2.2.2.2.2.1,x.2.2.2.2.2.2.1,()) (y.1,())
noncomputable def fu0 (x:X0) (y:Y0):Nat:=(x.2.2.2.2.2.1 - x.2.2.2.2.2.2.1).toNat+1
noncomputable def l0 (x:X0) (y:Y0):Bool×Nat×X0×Y0×U0×V0:=rounds (fun rq kn ke kr x y=>g0 rq kn ke kr x y) () () (fu0 x y) x y
noncomputable def g {Z:Type} (rq:Bool→Z→Z) (rt:X→Z) (gx:(Option ai)) (f:(List (List Int))) (n:Int):Z:=
lt (bU.r gx) fun w1230=>
rq w1230.1<|
bif w1230.2.isNone then
rt ([],1)
else
lt (ilt n 1) fun v1231=>
bif v1231 then
rt ([],1)
else
lt (ilt 7 n) fun v1232=>
bif v1232 then
rt ([],1)
else
lt (bZ.l0 (gx,f,(),0,(),n,0,()) ((true,[]),())) fun w1241=>
rq w1241.1<|
rt (w1241.2.2.2.1.1.2,0)
noncomputable def r (gx:(Option ai)) (f:(List (List Int))) (n:Int):Bool×X:=g chk (fun x=>(true,x)) gx f n
noncomputable def D:aP:=Dof (P:=Tryz.prog) [bU.ent,eO.ent,iG.ent]
noncomputable def tab:List (Nat×LE Res):= [(6,.typed (fH 39 sh0 bx0 aW aM aN (bf [1] (rounds (fun rq kn ke kr x y=>g0 rq kn ke kr x y) () ()) fu0)))]
set_option maxRecDepth 100000 in
theorem run (gx:(Option ai)) (f:(List (List Int))) (n:Int):aQ E0 [true,true] D (aJ E0 D tab 9) Tryz.f7 (codeOf Tryz.f7) [.val ⟨.ref au,gx⟩,.val ⟨.sl (.arr 4 (.int .u64)),f⟩,.val ⟨.int .i64,n⟩] []=g (fun c z=>req c z) (fun x=>some (res x)) gx f n:=by kernel_rfl
theorem rel (gx:(Option ai)) (f:(List (List Int))) (n:Int):J (fun w z=>z=some (res w)) (g chk (fun x=>(true,x)) gx f n) (g (fun c z=>req c z) (fun x=>some (res x)) gx f n):=by
 unfold g
 with_reducible repeat (first|(apply J.lt; intro _)|apply J.rq|apply J.bif|exact J.rt rfl)
set_option maxRecDepth 100000 in
theorem bG (x:ShX sh0) (y:BxX bx0) (kn:ShX sh0→BxX bx0→Option Res) (ke:Nat→ShX sh0→BxX bx0→Option Res) (kr:ShX aM→BxX aN→Option Res):d9 E0 D (aJ E0 D tab 8) (aD (codeOf Tryz.f7) 0) (inj 39 sh0 bx0 x y) (dN sh0 bx0 aW aM aN bC kn ke kr)=g0 (fun c z=>req c z) kn ke kr x y:=by kernel_rfl
theorem cB:Nonempty (Told E0 D tab Tryz.f7.ntmps (aD (codeOf Tryz.f7) 0) 39 sh0 bx0 aW aM aN (bf [1] (rounds (fun rq kn ke kr x y=>g0 rq kn ke kr x y) () ()) fu0)):=
 dh (sh:=sh0) (bx:=bx0) (ord:=aW) (shR:=aM) (bxR:=aN) bC 8 (by kernel_rfl) (by kernel_rfl) (by kernel_rfl) [1] fu0 () () (fun rq kn ke kr x y=>g0 rq kn ke kr x y) (fun rq kn ke kr x y=>g0 rq kn ke kr x y) (bG) (by
  intro φ kn1 kn2 ke1 ke2 kr1 kr2 h1 h2 h3 x y
  simp only [g0]
  with_reducible repeat (first|(apply J.lt; intro _)|apply J.rq|apply J.bif|exact h1 _ _|exact h2 _ (by decide) _ _|exact h3 (by decide) _ _))
theorem cK:fQ E0 D tab Tryz.f7.ntmps (codeOf Tryz.f7):=bY (bs:= [aD (codeOf Tryz.f7) 0]) (by kernel_rfl) (aK (cZ (by kernel_rfl) (cB)) bn)
theorem ok:dD Tryz.f7=true:=by kernel_rfl
abbrev aS:List AS:= [.one (.val (.ref au)),.one (.val (.sl (.arr 4 (.int .u64)))),.one (.val (.int .i64))]
abbrev bS:List Ty:= []
noncomputable def F (x:ASs aS) (y:Bs bS):Brn Res:=brn (r x.1 x.2.1 x.2.2.1)
theorem good (x:ASs aS) (y:Bs bS) (h:(F x y).res.1=true):Good Tryz.prog 7 (ASs.mk aS x) (Bs.mk bS y) (F x y).res.2:=
 aF hE0 (aA _) Tryz.func7 ok cK aj (run x.1 x.2.1 x.2.2.1) (rel x.1 x.2.1 x.2.2.1) h
noncomputable def ent:Ent Tryz.prog:=⟨7,shF aS bS F,aB good⟩
noncomputable def ro:(Option ai)→(List (List Int))→Int→Bool×X:=Classical.choose (⟨r,rfl⟩:∃ q:(Option ai)→(List (List Int))→Int→Bool×X,q=r)
theorem fT:ro=r:=Classical.choose_spec (⟨r,rfl⟩:∃ q:(Option ai)→(List (List Int))→Int→Bool×X,q=r)
noncomputable def FO (x:ASs aS) (y:Bs bS):Brn Res:=brn (ro x.1 x.2.1 x.2.2.1)
theorem kY:FO=F:=by unfold FO F; rw [fT]
noncomputable def oF:Ent Tryz.prog:=⟨7,shF aS bS FO,aB (by rw [kY]; exact good)⟩
end bZ
namespace bD
abbrev X:Type:=Bool
noncomputable def res (x:Bool):Res:=⟨[.val ⟨.bool,x⟩],[],[]⟩
noncomputable def brn (w:Bool×X):Brn Res:= .one w.1 (res w.2)
theorem aj (w:Bool×X):(brn w).res=(w.1,res w.2):=rfl
abbrev sh0:List (Nat×Sh):= [(0,.p (.sl dM)),(1,.p (.sl dM)),(4,.p .bool),(5,.p (.int .i64))]
abbrev bx0:List (Nat×Ty):= []
abbrev aW:List (Nat×Ty):= []
abbrev aM:List (Nat×Sh):= [(4,.p .bool)]
abbrev aN:List (Nat×Ty):= []
abbrev bC:List (Nat×Ty):= []
abbrev X0:Type:=(List bL)×(List bL)×Bool×Int×Unit
abbrev Y0:Type:=Unit
abbrev U0:Type:=Bool×Unit
abbrev V0:Type:=Unit
noncomputable def g0 {Z:Type} (rq:Bool→Z→Z) (kn:X0→Y0→Z) (ke:Nat→X0→Y0→Z) (kr:U0→V0→Z) (x:X0) (y:Y0):Z:=
lt (x.1.length:Int) fun (v1253:Int)=>
lt (ilt x.2.2.2.1 v1253) fun v1254=>
bif v1254 then
lt (x.1.getD x.2.2.2.1.toNat (0,([0,0,0,0],()))) fun (v1255:bL)=>
rq (ile (0:Int) x.2.2.2.1&&ilt x.2.2.2.1 (x.1.length:Int))<|
lt (x.2.1.getD x.2.2.2.1.toNat (0,([0,0,0,0],()))) fun (v1256:bL)=>
rq (ile (0:Int) x.2.2.2.1&&ilt x.2.2.2.1 (x.2.1.length:Int))<|
lt (!(ieq v1255.1 v1256.1&&((ieq (v1255.2.1.getD 0 0) (v1256.2.1.getD 0 0)&&(ieq (v1255.2.1.getD 1 0) (v1256.2.1.getD 1 0)&&(ieq (v1255.2.1.getD 2 0) (v1256.2.1.getD 2 0)&&(ieq (v1255.2.1.getD 3 0) (v1256.2.1.getD 3 0)&&true))))&&true))) fun (v1257:Bool)=>
bif v1257 then
kr (false,()) ()
else
lt (IntKind.i64.wrap (x.2.2.2.1+1)) fun v1258=>
kn (x.1,x.2.1,x.2.2.1,v1258,()) ()
else
ke 0 (x.1,x.2.1,x.2.2.1,x.2.2.2.1,()) ()
noncomputable def fu0 (x:X0) (y:Y0):Nat:=((x.1.length:Int) - x.2.2.2.1).toNat+1
noncomputable def l0 (x:X0) (y:Y0):Bool×Nat×X0×Y0×U0×V0:=rounds (fun rq kn ke kr x y=>g0 rq kn ke kr x y) (false,()) () (fu0 x y) x y
noncomputable def g {Z:Type} (rq:Bool→Z→Z) (rt:X→Z) (a:(List bL)) (b:(List bL)):Z:=
lt (a.length:Int) fun (v1248:Int)=>
lt (b.length:Int) fun (v1249:Int)=>
lt (v1248 != v1249) fun (v1250:Bool)=>
bif v1250 then
rt false
else
lt (bD.l0 (a,b,false,0,()) ()) fun w1259=>
rq w1259.1<|
bif Nat.beq w1259.2.1 0 then
rt w1259.2.2.2.2.1.1
else
rt true
noncomputable def r (a:(List bL)) (b:(List bL)):Bool×X:=g chk (fun x=>(true,x)) a b
noncomputable def D:aP:=Dof (P:=Tryz.prog) []
noncomputable def tab:List (Nat×LE Res):= [(5,.typed (fH 26 sh0 bx0 aW aM aN (bf [0,1] (rounds (fun rq kn ke kr x y=>g0 rq kn ke kr x y) (false,()) ()) fu0)))]
set_option maxRecDepth 100000 in
theorem run (a:(List bL)) (b:(List bL)):aQ E0 [true] D (aJ E0 D tab 9) Tryz.f8 (codeOf Tryz.f8) [.val ⟨.sl dM,a⟩,.val ⟨.sl dM,b⟩] []=g (fun c z=>req c z) (fun x=>some (res x)) a b:=by kernel_rfl
theorem rel (a:(List bL)) (b:(List bL)):J (fun w z=>z=some (res w)) (g chk (fun x=>(true,x)) a b) (g (fun c z=>req c z) (fun x=>some (res x)) a b):=by
 unfold g
 with_reducible repeat (first|(apply J.lt; intro _)|apply J.rq|apply J.bif|exact J.rt rfl)
set_option maxRecDepth 100000 in
theorem bG (x:ShX sh0) (y:BxX bx0) (kn:ShX sh0→BxX bx0→Option Res) (ke:Nat→ShX sh0→BxX bx0→Option Res) (kr:ShX aM→BxX aN→Option Res):d9 E0 D (aJ E0 D tab 8) (aD (codeOf Tryz.f8) 0) (inj 26 sh0 bx0 x y) (dN sh0 bx0 aW aM aN bC kn ke kr)=g0 (fun c z=>req c z) kn ke kr x y:=by kernel_rfl
theorem cB:Nonempty (Told E0 D tab Tryz.f8.ntmps (aD (codeOf Tryz.f8) 0) 26 sh0 bx0 aW aM aN (bf [0,1] (rounds (fun rq kn ke kr x y=>g0 rq kn ke kr x y) (false,()) ()) fu0)):=
 dh (sh:=sh0) (bx:=bx0) (ord:=aW) (shR:=aM) (bxR:=aN) bC 8 (by kernel_rfl) (by kernel_rfl) (by kernel_rfl) [0,1] fu0 (false,()) () (fun rq kn ke kr x y=>g0 rq kn ke kr x y) (fun rq kn ke kr x y=>g0 rq kn ke kr x y) (bG) (by
  intro φ kn1 kn2 ke1 ke2 kr1 kr2 h1 h2 h3 x y
  simp only [g0]
  with_reducible repeat (first|(apply J.lt; intro _)|apply J.rq|apply J.bif|exact h1 _ _|exact h2 _ (by decide) _ _|exact h3 (by decide) _ _))
theorem cK:fQ E0 D tab Tryz.f8.ntmps (codeOf Tryz.f8):=bY (bs:= [aD (codeOf Tryz.f8) 0]) (by kernel_rfl) (aK (cZ (by kernel_rfl) (cB)) bn)
theorem ok:dD Tryz.f8=true:=by kernel_rfl
abbrev aS:List AS:= [.one (.val (.sl dM)),.one (.val (.sl dM))]
abbrev bS:List Ty:= []
noncomputable def F (x:ASs aS) (y:Bs bS):Brn Res:=brn (r x.1 x.2.1)
theorem good (x:ASs aS) (y:Bs bS) (h:(F x y).res.1=true):Good Tryz.prog 8 (ASs.mk aS x) (Bs.mk bS y) (F x y).res.2:=
 aF hE0 (aA _) Tryz.func8 ok cK aj (run x.1 x.2.1) (rel x.1 x.2.1) h
noncomputable def ent:Ent Tryz.prog:=⟨8,shF aS bS F,aB good⟩
noncomputable def ro:(List bL)→(List bL)→Bool×X:=Classical.choose (⟨r,rfl⟩:∃ q:(List bL)→(List bL)→Bool×X,q=r)
theorem fT:ro=r:=Classical.choose_spec (⟨r,rfl⟩:∃ q:(List bL)→(List bL)→Bool×X,q=r)
noncomputable def FO (x:ASs aS) (y:Bs bS):Brn Res:=brn (ro x.1 x.2.1)
theorem kY:FO=F:=by unfold FO F; rw [fT]
noncomputable def oF:Ent Tryz.prog:=⟨8,shF aS bS FO,aB (by rw [kY]; exact good)⟩
end bD
namespace iX
abbrev X:Type:=Bool×Int
noncomputable def res (x:Bool×Int):Res:=⟨[.val ⟨.bool,x.1⟩],[some ⟨.int .i64,x.2⟩],[]⟩
noncomputable def brn (w:Bool×X):Brn Res:= .one w.1 (res w.2)
theorem aj (w:Bool×X):(brn w).res=(w.1,res w.2):=rfl
noncomputable def g {Z:Type} (rq:Bool→Z→Z) (rt:X→Z) (xx:Int) (b:Int):Z:=
lt (ilt xx b) fun v1288=>
bif v1288 then
rt (true,b)
else
lt (ilt 7 xx) fun v1289=>
rt (v1289,b)
noncomputable def r (xx:Int) (b:Int):Bool×X:=g chk (fun x=>(true,x)) xx b
noncomputable def D:aP:=Dof (P:=Tryz.prog) []
noncomputable def tab:List (Nat×LE Res):= []
set_option maxRecDepth 100000 in
theorem run (xx:Int) (b:Int):aQ E0 [true] D (aJ E0 D tab 9) Tryz.f54 (codeOf Tryz.f54) [.val ⟨.int .i64,xx⟩,.pb 1000000 (.int .i64) []] [⟨.int .i64,b⟩]=g (fun c z=>req c z) (fun x=>some (res x)) xx b:=by kernel_rfl
theorem rel (xx:Int) (b:Int):J (fun w z=>z=some (res w)) (g chk (fun x=>(true,x)) xx b) (g (fun c z=>req c z) (fun x=>some (res x)) xx b):=by
 unfold g
 with_reducible repeat (first|(apply J.lt; intro _)|apply J.rq|apply J.bif|exact J.rt rfl)
theorem ok:dD Tryz.f54=true:=by kernel_rfl
abbrev aS:List AS:= [.one (.val (.int .i64)),.one (.pb 1000000 (.int .i64) [])]
abbrev bS:List Ty:= [.int .i64]
noncomputable def F (x:ASs aS) (y:Bs bS):Brn Res:=brn (r x.1 y.1)
theorem good (x:ASs aS) (y:Bs bS) (h:(F x y).res.1=true):Good Tryz.prog 54 (ASs.mk aS x) (Bs.mk bS y) (F x y).res.2:=
 aF hE0 (aA _) Tryz.func54 ok aO aj (run x.1 y.1) (rel x.1 y.1) h
noncomputable def ent:Ent Tryz.prog:=⟨54,shF aS bS F,aB good⟩
end iX
namespace bP
abbrev X:Type:=Int×Int
noncomputable def res (x:Int×Int):Res:=⟨[.val ⟨.int .i64,x.1⟩],[some ⟨.int .i64,x.2⟩],[]⟩
noncomputable def brn (w:Bool×X):Brn Res:= .one w.1 (res w.2)
theorem aj (w:Bool×X):(brn w).res=(w.1,res w.2):=rfl
abbrev sh0:List (Nat×Sh):= [(0,.p (.sl (.int .i64))),(1,.clo 54 [(1000000,.int .i64)]),(4,.p (.int .i64)),(7,.p (.int .i64)),(8,.p (.int .i64))]
abbrev bx0:List (Nat×Ty):= [(1000000,.int .i64)]
abbrev aW:List (Nat×Ty):= [(1000000,.int .i64)]
abbrev aM:List (Nat×Sh):= [(4,.p (.int .i64))]
abbrev aN:List (Nat×Ty):= [(1000000,.int .i64)]
abbrev bC:List (Nat×Ty):= [(1000000,.int .i64)]
abbrev X0:Type:=(List Int)×Unit×Int×Int×Int×Unit
abbrev Y0:Type:=Int×Unit
abbrev U0:Type:=Int×Unit
abbrev V0:Type:=Int×Unit
noncomputable def g0 {Z:Type} (rq:Bool→Z→Z) (kn:X0→Y0→Z) (ke:Nat→X0→Y0→Z) (kr:U0→V0→Z) (x:X0) (y:Y0):Z:=
lt (ilt x.2.2.2.2.1 x.2.2.2.1) fun v1286=>
bif v1286 then
lt (x.1.getD x.2.2.2.2.1.toNat 0) fun (v1287:Int)=>
rq (ile (0:Int) x.2.2.2.2.1&&ilt x.2.2.2.2.1 (x.1.length:Int))<|
lt (iX.r v1287 y.1) fun w1290=>
rq w1290.1<|
bif w1290.2.1 then
kr (x.2.2.2.2.1,()) (w1290.2.2,())
else
lt (IntKind.i64.wrap (x.2.2.2.2.1+1)) fun v1291=>
kn (x.1,(),x.2.2.1,x.2.2.2.1,v1291,()) (w1290.2.2,())
else
ke 0 (x.1,(),x.2.2.1,x.2.2.2.1,x.2.2.2.2.1,()) (y.1,())
noncomputable def fu0 (x:X0) (y:Y0):Nat:=(x.2.2.2.1 - x.2.2.2.2.1).toNat+1
noncomputable def l0 (x:X0) (y:Y0):Bool×Nat×X0×Y0×U0×V0:=rounds (fun rq kn ke kr x y=>g0 rq kn ke kr x y) (0,()) (0,()) (fu0 x y) x y
noncomputable def g {Z:Type} (rq:Bool→Z→Z) (rt:X→Z) (s:(List Int)) (b:Int):Z:=
lt (s.length:Int) fun (v1284:Int)=>
lt (bP.l0 (s,(),0,v1284,0,()) (b,())) fun w1292=>
rq w1292.1<|
bif Nat.beq w1292.2.1 0 then
rt (w1292.2.2.2.2.1.1,w1292.2.2.2.2.2.1)
else
rt ((-1),w1292.2.2.2.1.1)
noncomputable def r (s:(List Int)) (b:Int):Bool×X:=g chk (fun x=>(true,x)) s b
noncomputable def D:aP:=Dof (P:=Tryz.prog) [iX.ent]
noncomputable def tab:List (Nat×LE Res):= [(3,.typed (fH 19 sh0 bx0 aW aM aN (bf [0,1] (rounds (fun rq kn ke kr x y=>g0 rq kn ke kr x y) (0,()) (0,())) fu0)))]
set_option maxRecDepth 100000 in
theorem run (s:(List Int)) (b:Int):aQ E0 [true] D (aJ E0 D tab 9) Tryz.f83 (codeOf Tryz.f83) [.val ⟨.sl (.int .i64),s⟩,.clo 54 [.pb 1000000 (.int .i64) []]] [⟨.int .i64,b⟩]=g (fun c z=>req c z) (fun x=>some (res x)) s b:=by kernel_rfl
theorem rel (s:(List Int)) (b:Int):J (fun w z=>z=some (res w)) (g chk (fun x=>(true,x)) s b) (g (fun c z=>req c z) (fun x=>some (res x)) s b):=by
 unfold g
 with_reducible repeat (first|(apply J.lt; intro _)|apply J.rq|apply J.bif|exact J.rt rfl)
set_option maxRecDepth 100000 in
theorem bG (x:ShX sh0) (y:BxX bx0) (kn:ShX sh0→BxX bx0→Option Res) (ke:Nat→ShX sh0→BxX bx0→Option Res) (kr:ShX aM→BxX aN→Option Res):d9 E0 D (aJ E0 D tab 8) (aD (codeOf Tryz.f83) 0) (inj 19 sh0 bx0 x y) (dN sh0 bx0 aW aM aN bC kn ke kr)=g0 (fun c z=>req c z) kn ke kr x y:=by kernel_rfl
theorem cB:Nonempty (Told E0 D tab Tryz.f83.ntmps (aD (codeOf Tryz.f83) 0) 19 sh0 bx0 aW aM aN (bf [0,1] (rounds (fun rq kn ke kr x y=>g0 rq kn ke kr x y) (0,()) (0,())) fu0)):=
 dh (sh:=sh0) (bx:=bx0) (ord:=aW) (shR:=aM) (bxR:=aN) bC 8 (by kernel_rfl) (by kernel_rfl) (by kernel_rfl) [0,1] fu0 (0,()) (0,()) (fun rq kn ke kr x y=>g0 rq kn ke kr x y) (fun rq kn ke kr x y=>g0 rq kn ke kr x y) (bG) (by
  intro φ kn1 kn2 ke1 ke2 kr1 kr2 h1 h2 h3 x y
  simp only [g0]
  with_reducible repeat (first|(apply J.lt; intro _)|apply J.rq|apply J.bif|exact h1 _ _|exact h2 _ (by decide) _ _|exact h3 (by decide) _ _))
theorem cK:fQ E0 D tab Tryz.f83.ntmps (codeOf Tryz.f83):=bY (bs:= [aD (codeOf Tryz.f83) 0]) (by kernel_rfl) (aK (cZ (by kernel_rfl) (cB)) bn)
theorem ok:dD Tryz.f83=true:=by kernel_rfl
abbrev aS:List AS:= [.one (.val (.sl (.int .i64))),.clo 54 [.pb 1000000 (.int .i64) []]]
abbrev bS:List Ty:= [.int .i64]
noncomputable def F (x:ASs aS) (y:Bs bS):Brn Res:=brn (r x.1 y.1)
theorem good (x:ASs aS) (y:Bs bS) (h:(F x y).res.1=true):Good Tryz.prog 83 (ASs.mk aS x) (Bs.mk bS y) (F x y).res.2:=
 aF hE0 (aA _) Tryz.func83 ok cK aj (run x.1 y.1) (rel x.1 y.1) h
noncomputable def ent:Ent Tryz.prog:=⟨83,shF aS bS F,aB good⟩
end bP
namespace fJ
abbrev X:Type:=Bool×Int
noncomputable def res (x:Bool×Int):Res:=⟨[.val ⟨.bool,x.1⟩],[some ⟨.int .i64,x.2⟩],[]⟩
noncomputable def brn (w:Bool×X):Brn Res:= .one w.1 (res w.2)
theorem aj (w:Bool×X):(brn w).res=(w.1,res w.2):=rfl
noncomputable def g {Z:Type} (rq:Bool→Z→Z) (rt:X→Z) (s:(List Int)) (b:Int):Z:=
lt (bP.r s b) fun w1293=>
rq w1293.1<|
lt (ile 0 w1293.2.1) fun v1294=>
rt (v1294,w1293.2.2)
noncomputable def r (s:(List Int)) (b:Int):Bool×X:=g chk (fun x=>(true,x)) s b
noncomputable def D:aP:=Dof (P:=Tryz.prog) [bP.ent]
noncomputable def tab:List (Nat×LE Res):= []
set_option maxRecDepth 100000 in
theorem run (s:(List Int)) (b:Int):aQ E0 [true] D (aJ E0 D tab 9) Tryz.f53 (codeOf Tryz.f53) [.val ⟨.sl (.int .i64),s⟩,.clo 54 [.pb 1000000 (.int .i64) []]] [⟨.int .i64,b⟩]=g (fun c z=>req c z) (fun x=>some (res x)) s b:=by kernel_rfl
theorem rel (s:(List Int)) (b:Int):J (fun w z=>z=some (res w)) (g chk (fun x=>(true,x)) s b) (g (fun c z=>req c z) (fun x=>some (res x)) s b):=by
 unfold g
 with_reducible repeat (first|(apply J.lt; intro _)|apply J.rq|apply J.bif|exact J.rt rfl)
theorem ok:dD Tryz.f53=true:=by kernel_rfl
abbrev aS:List AS:= [.one (.val (.sl (.int .i64))),.clo 54 [.pb 1000000 (.int .i64) []]]
abbrev bS:List Ty:= [.int .i64]
noncomputable def F (x:ASs aS) (y:Bs bS):Brn Res:=brn (r x.1 y.1)
theorem good (x:ASs aS) (y:Bs bS) (h:(F x y).res.1=true):Good Tryz.prog 53 (ASs.mk aS x) (Bs.mk bS y) (F x y).res.2:=
 aF hE0 (aA _) Tryz.func53 ok aO aj (run x.1 y.1) (rel x.1 y.1) h
noncomputable def ent:Ent Tryz.prog:=⟨53,shF aS bS F,aB good⟩
end fJ
namespace jX
abbrev X:Type:=Bool
noncomputable def res (x:Bool):Res:=⟨[.val ⟨.bool,x⟩],[],[]⟩
noncomputable def brn (w:Bool×X):Brn Res:= .one w.1 (res w.2)
theorem aj (w:Bool×X):(brn w).res=(w.1,res w.2):=rfl
noncomputable def g {Z:Type} (rq:Bool→Z→Z) (rt:X→Z) (l:(List Int)) (least:Int):Z:=
lt (fJ.r l least) fun w1295=>
rq w1295.1<|
rt w1295.2.1
noncomputable def r (l:(List Int)) (least:Int):Bool×X:=g chk (fun x=>(true,x)) l least
noncomputable def D:aP:=Dof (P:=Tryz.prog) [fJ.ent]
noncomputable def tab:List (Nat×LE Res):= []
set_option maxRecDepth 100000 in
theorem run (l:(List Int)) (least:Int):aQ E0 [true] D (aJ E0 D tab 9) Tryz.f32 (codeOf Tryz.f32) [.val ⟨.sl (.int .i64),l⟩,.val ⟨.int .i64,least⟩] []=g (fun c z=>req c z) (fun x=>some (res x)) l least:=by kernel_rfl
theorem rel (l:(List Int)) (least:Int):J (fun w z=>z=some (res w)) (g chk (fun x=>(true,x)) l least) (g (fun c z=>req c z) (fun x=>some (res x)) l least):=by
 unfold g
 with_reducible repeat (first|(apply J.lt; intro _)|apply J.rq|apply J.bif|exact J.rt rfl)
theorem ok:dD Tryz.f32=true:=by kernel_rfl
abbrev aS:List AS:= [.one (.val (.sl (.int .i64))),.one (.val (.int .i64))]
abbrev bS:List Ty:= []
noncomputable def F (x:ASs aS) (y:Bs bS):Brn Res:=brn (r x.1 x.2.1)
theorem good (x:ASs aS) (y:Bs bS) (h:(F x y).res.1=true):Good Tryz.prog 32 (ASs.mk aS x) (Bs.mk bS y) (F x y).res.2:=
 aF hE0 (aA _) Tryz.func32 ok aO aj (run x.1 x.2.1) (rel x.1 x.2.1) h
noncomputable def ent:Ent Tryz.prog:=⟨32,shF aS bS F,aB good⟩
end jX
namespace iB
abbrev X:Type:=(Bool×List Int)
noncomputable def res (x:(Bool×List Int)):Res:=⟨[.va 1000000 (.int .i64)],[],[⟨.dyn (.int .i64),x⟩]⟩
noncomputable def brn (w:Bool×X):Brn Res:= .one w.1 (res w.2)
theorem aj (w:Bool×X):(brn w).res=(w.1,res w.2):=rfl
noncomputable def g {Z:Type} (rq:Bool→Z→Z) (rt:X→Z) (s:(List Int)):Z:=
rq (!s.isEmpty)<|
rq (nle ((2*(0+s.length)+512)*8) 70368744177664)<|
rt (false,s)
noncomputable def r (s:(List Int)):Bool×X:=g chk (fun x=>(true,x)) s
noncomputable def D:aP:=Dof (P:=Tryz.prog) []
noncomputable def tab:List (Nat×LE Res):= []
set_option maxRecDepth 100000 in
theorem run (s:(List Int)):aQ E0 [false] D (aJ E0 D tab 9) Tryz.f55 (codeOf Tryz.f55) [.val ⟨.sl (.int .i64),s⟩] []=g (fun c z=>req c z) (fun x=>some (res x)) s:=by kernel_rfl
theorem rel (s:(List Int)):J (fun w z=>z=some (res w)) (g chk (fun x=>(true,x)) s) (g (fun c z=>req c z) (fun x=>some (res x)) s):=by
 unfold g
 with_reducible repeat (first|(apply J.lt; intro _)|apply J.rq|apply J.bif|exact J.rt rfl)
theorem ok:dD Tryz.f55=true:=by kernel_rfl
abbrev aS:List AS:= [.one (.val (.sl (.int .i64)))]
abbrev bS:List Ty:= []
noncomputable def F (x:ASs aS) (y:Bs bS):Brn Res:=brn (r x.1)
theorem good (x:ASs aS) (y:Bs bS) (h:(F x y).res.1=true):Good Tryz.prog 55 (ASs.mk aS x) (Bs.mk bS y) (F x y).res.2:=
 aF hE0 (aA _) Tryz.func55 ok aO aj (run x.1) (rel x.1) h
noncomputable def ent:Ent Tryz.prog:=⟨55,shF aS bS F,aB good⟩
theorem Rq (ad:Option Addr) (cap:Nat) (w:World):(Go.binOp .eql 33 (.slice ad 0 cap) (.slice none 0 0)).run Tryz.prog w= .ok (.bool ad.isNone) w:=by cases ad<;>kernel_rfl
set_option maxRecDepth 100000 in
theorem empty (ad:Option Addr) (cap:Nat) (w:World):Calls Tryz.prog 55 #[.slice ad 0 cap] w fun e w2=>(∃ ad2 cap2,e= .returned (.slice ad2 0 cap2))∧j5 w w2:=by
 cases ad with
 |none=>
  go_enter Tryz.func55,Tryz.ntmps55
  go_wp2
  rw [Rq]
  go_wp2
  go_ret
  exact ⟨⟨_,_,rfl⟩,j5.refl _⟩
 |some ad=>
  go_enter Tryz.func55,Tryz.ntmps55
  go_wp2
  rw [Rq]
  go_wp2
  go_ret
  exact ⟨⟨_,_,rfl⟩,j5.alloc _ _⟩
noncomputable def UC:Ent Tryz.prog:=⟨55,shF [.one (.val (.sl (.int .i64)))] [] (Jj (.int .i64) F),aB (GR (yS Tryz.func55 (by kernel_rfl) (by kernel_rfl) (by decide) empty) good)⟩
end iB
namespace gL
abbrev X:Type:=(List Int)
noncomputable def res (x:(List Int)):Res:=⟨[.val ⟨.sl (.int .i64),x⟩],[],[]⟩
noncomputable def brn (w:Bool×X):Brn Res:= .one w.1 (res w.2)
theorem aj (w:Bool×X):(brn w).res=(w.1,res w.2):=rfl
abbrev sh1:List (Nat×Sh):= [(0,.p (.sl (.int .i64))),(2,.nil),(3,.p (.int .i64)),(4,.p (.sl (.int .i64))),(5,.p (.int .i64))]
abbrev bx1:List (Nat×Ty):= []
abbrev ow:List (Nat×Ty):= []
abbrev mg:List (Nat×Sh):= []
abbrev mH:List (Nat×Ty):= []
abbrev qo:List (Nat×Ty):= []
abbrev X1:Type:=(List Int)×Unit×Int×(List Int)×Int×Unit
abbrev Y1:Type:=Unit
abbrev U1:Type:=Unit
abbrev V1:Type:=Unit
noncomputable def g1 {Z:Type} (rq:Bool→Z→Z) (kn:X1→Y1→Z) (ke:Nat→X1→Y1→Z) (kr:U1→V1→Z) (x:X1) (y:Y1):Z:=
lt (x.2.2.2.1.length:Int) fun (v1310:Int)=>
lt (ilt x.2.2.2.2.1 v1310) fun v1311=>
bif v1311 then
lt (x.2.2.2.1.getD x.2.2.2.2.1.toNat 0) fun (v1312:Int)=>
rq (ile (0:Int) x.2.2.2.2.1&&ilt x.2.2.2.2.1 (x.2.2.2.1.length:Int))<|
lt (IntKind.i64.wrap (x.2.2.2.2.1 - 1)) fun v1313=>
lt (x.2.2.2.1.getD v1313.toNat 0) fun (v1314:Int)=>
rq (ile (0:Int) v1313&&ilt v1313 (x.2.2.2.1.length:Int))<|
lt (v1312 != v1314) fun (v1315:Bool)=>
bif v1315 then
lt (x.2.2.2.1.getD x.2.2.2.2.1.toNat 0) fun (v1316:Int)=>
rq (ile (0:Int) x.2.2.2.2.1&&ilt x.2.2.2.2.1 (x.2.2.2.1.length:Int))<|
lt (x.1.getD x.2.2.1.toNat 0) fun (v1317:Int)=>
rq (ile (0:Int) x.2.2.1&&ilt x.2.2.1 (x.1.length:Int))<|
rq false<|kn x y
else
lt (IntKind.i64.wrap (x.2.2.2.2.1+1)) fun v1318=>
kn (x.1,(),x.2.2.1,x.2.2.2.1,v1318,()) ()
else
ke 2 (x.1,(),x.2.2.1,x.2.2.2.1,x.2.2.2.2.1,()) ()
noncomputable def fu1 (x:X1) (y:Y1):Nat:=((x.2.2.2.1.length:Int) - x.2.2.2.2.1).toNat+1
noncomputable def l1 (x:X1) (y:Y1):Bool×Nat×X1×Y1×U1×V1:=rounds (fun rq kn ke kr x y=>g1 rq kn ke kr x y) () () (fu1 x y) x y
abbrev sh0:List (Nat×Sh):= [(0,.p (.sl (.int .i64))),(2,.nil),(3,.p (.int .i64))]
abbrev bx0:List (Nat×Ty):= []
abbrev aW:List (Nat×Ty):= []
abbrev aM:List (Nat×Sh):= []
abbrev aN:List (Nat×Ty):= []
abbrev bC:List (Nat×Ty):= []
abbrev X0:Type:=(List Int)×Unit×Int×Unit
abbrev Y0:Type:=Unit
abbrev U0:Type:=Unit
abbrev V0:Type:=Unit
noncomputable def g0 {Z:Type} (rq:Bool→Z→Z) (kn:X0→Y0→Z) (ke:Nat→X0→Y0→Z) (kr:U0→V0→Z) (x:X0) (y:Y0):Z:=
lt (x.1.length:Int) fun (v1301:Int)=>
lt (ilt x.2.2.1 v1301) fun v1302=>
bif v1302 then
lt (x.1.getD x.2.2.1.toNat 0) fun (v1303:Int)=>
rq (ile (0:Int) x.2.2.1&&ilt x.2.2.1 (x.1.length:Int))<|
lt (IntKind.i64.wrap (x.2.2.1 - 1)) fun v1304=>
lt (x.1.getD v1304.toNat 0) fun (v1305:Int)=>
rq (ile (0:Int) v1304&&ilt v1304 (x.1.length:Int))<|
lt (v1303== v1305) fun (v1306:Bool)=>
bif v1306 then
lt ((x.1.drop x.2.2.1.toNat).take ((x.1.length:Int).toNat - x.2.2.1.toNat)) fun (v1307:(List Int))=>
rq ((ile (0:Int) x.2.2.1&&ile x.2.2.1 (x.1.length:Int))&&ile (x.1.length:Int) (x.1.length:Int))<|
lt (gL.l1 (x.1,(),x.2.2.1,v1307,1,()) ()) fun w1319=>
rq w1319.1<|
lt ((w1319.2.2.1.1.drop w1319.2.2.1.2.2.1.toNat).take ((w1319.2.2.1.1.length:Int).toNat - w1319.2.2.1.2.2.1.toNat)) fun (v1320:(List Int))=>
rq ((ile (0:Int) w1319.2.2.1.2.2.1&&ile w1319.2.2.1.2.2.1 (w1319.2.2.1.1.length:Int))&&ile (w1319.2.2.1.1.length:Int) (w1319.2.2.1.1.length:Int))<|
rq false<|kn x y
else
lt (IntKind.i64.wrap (x.2.2.1+1)) fun v1321=>
kn (x.1,(),v1321,()) ()
else
ke 0 (x.1,(),x.2.2.1,()) ()
noncomputable def fu0 (x:X0) (y:Y0):Nat:=((x.1.length:Int) - x.2.2.1).toNat+1
noncomputable def l0 (x:X0) (y:Y0):Bool×Nat×X0×Y0×U0×V0:=rounds (fun rq kn ke kr x y=>g0 rq kn ke kr x y) () () (fu0 x y) x y
noncomputable def g {Z:Type} (rq:Bool→Z→Z) (rt:X→Z) (s:(List Int)):Z:=
lt (s.length:Int) fun (v1297:Int)=>
lt (ilt v1297 2) fun v1298=>
bif v1298 then
rt s
else
lt (gL.l0 (s,(),1,()) ()) fun w1322=>
rq w1322.1<|
rt w1322.2.2.1.1
noncomputable def r (s:(List Int)):Bool×X:=g chk (fun x=>(true,x)) s
noncomputable def D:aP:=Dof (P:=Tryz.prog) []
noncomputable def tab:List (Nat×LE Res):= [(10,.typed (fH 61 sh1 bx1 ow mg mH (bf [3] (rounds (fun rq kn ke kr x y=>g1 rq kn ke kr x y) () ()) fu1))),(5,.typed (fH 61 sh0 bx0 aW aM aN (bf [1] (rounds (fun rq kn ke kr x y=>g0 rq kn ke kr x y) () ()) fu0)))]
set_option maxRecDepth 100000 in
theorem run (s:(List Int)):aQ E0 [true] D (aJ E0 D tab 9) Tryz.f57 (codeOf Tryz.f57) [.val ⟨.sl (.int .i64),s⟩] []=g (fun c z=>req c z) (fun x=>some (res x)) s:=by kernel_rfl
theorem rel (s:(List Int)):J (fun w z=>z=some (res w)) (g chk (fun x=>(true,x)) s) (g (fun c z=>req c z) (fun x=>some (res x)) s):=by
 unfold g
 with_reducible repeat (first|(apply J.lt; intro _)|apply J.rq|apply J.bif|exact J.rt rfl)
set_option maxRecDepth 100000 in
theorem rJ (x:ShX sh1) (y:BxX bx1) (kn:ShX sh1→BxX bx1→Option Res) (ke:Nat→ShX sh1→BxX bx1→Option Res) (kr:ShX mg→BxX mH→Option Res):d9 E0 D (aJ E0 D tab 8) (aD (codeOf Tryz.f57) 1) (inj 61 sh1 bx1 x y) (dN sh1 bx1 ow mg mH qo kn ke kr)=g1 (fun c z=>req c z) kn ke kr x y:=by kernel_rfl
theorem vQ:Nonempty (Told E0 D tab Tryz.f57.ntmps (aD (codeOf Tryz.f57) 1) 61 sh1 bx1 ow mg mH (bf [3] (rounds (fun rq kn ke kr x y=>g1 rq kn ke kr x y) () ()) fu1)):=
 dh (sh:=sh1) (bx:=bx1) (ord:=ow) (shR:=mg) (bxR:=mH) qo 8 (by kernel_rfl) (by kernel_rfl) (by kernel_rfl) [3] fu1 () () (fun rq kn ke kr x y=>g1 rq kn ke kr x y) (fun rq kn ke kr x y=>g1 rq kn ke kr x y) (rJ) (by
  intro φ kn1 kn2 ke1 ke2 kr1 kr2 h1 h2 h3 x y
  simp only [g1]
  with_reducible repeat (first|(apply J.lt; intro _)|apply J.rq|apply J.bif|exact h1 _ _|exact h2 _ (by decide) _ _|exact h3 (by decide) _ _))
set_option maxRecDepth 100000 in
theorem bG (x:ShX sh0) (y:BxX bx0) (kn:ShX sh0→BxX bx0→Option Res) (ke:Nat→ShX sh0→BxX bx0→Option Res) (kr:ShX aM→BxX aN→Option Res):d9 E0 D (aJ E0 D tab 8) (aD (codeOf Tryz.f57) 0) (inj 61 sh0 bx0 x y) (dN sh0 bx0 aW aM aN bC kn ke kr)=g0 (fun c z=>req c z) kn ke kr x y:=by kernel_rfl
theorem cB:Nonempty (Told E0 D tab Tryz.f57.ntmps (aD (codeOf Tryz.f57) 0) 61 sh0 bx0 aW aM aN (bf [1] (rounds (fun rq kn ke kr x y=>g0 rq kn ke kr x y) () ()) fu0)):=
 dh (sh:=sh0) (bx:=bx0) (ord:=aW) (shR:=aM) (bxR:=aN) bC 8 (by kernel_rfl) (by kernel_rfl) (by kernel_rfl) [1] fu0 () () (fun rq kn ke kr x y=>g0 rq kn ke kr x y) (fun rq kn ke kr x y=>g0 rq kn ke kr x y) (bG) (by
  intro φ kn1 kn2 ke1 ke2 kr1 kr2 h1 h2 h3 x y
  simp only [g0]
  with_reducible repeat (first|(apply J.lt; intro _)|apply J.rq|apply J.bif|exact h1 _ _|exact h2 _ (by decide) _ _|exact h3 (by decide) _ _))
theorem cK:fQ E0 D tab Tryz.f57.ntmps (codeOf Tryz.f57):=bY (bs:= [aD (codeOf Tryz.f57) 0,aD (codeOf Tryz.f57) 1]) (by kernel_rfl) (aK (cZ (by kernel_rfl) (cB)) (aK (cZ (by kernel_rfl) (vQ)) bn))
theorem ok:dD Tryz.f57=true:=by kernel_rfl
abbrev aS:List AS:= [.one (.val (.sl (.int .i64)))]
abbrev bS:List Ty:= []
noncomputable def F (x:ASs aS) (y:Bs bS):Brn Res:=brn (r x.1)
theorem good (x:ASs aS) (y:Bs bS) (h:(F x y).res.1=true):Good Tryz.prog 57 (ASs.mk aS x) (Bs.mk bS y) (F x y).res.2:=
 aF hE0 (aA _) Tryz.func57 ok cK aj (run x.1) (rel x.1) h
noncomputable def ent:Ent Tryz.prog:=⟨57,shF aS bS F,aB good⟩
end gL
namespace bF
abbrev X:Type:=(List Int)
noncomputable def res (x:(List Int)):Res:=⟨[.val ⟨.sl (.int .i64),x⟩],[none],[]⟩
noncomputable def brn (w:Bool×X):Brn Res:= .one w.1 (res w.2)
theorem aj (w:Bool×X):(brn w).res=(w.1,res w.2):=rfl
abbrev sh1:List (Nat×Sh):= [(0,.va 1000000 (.int .i64)),(2,.nil),(3,.p (.int .i64)),(4,.vs 1000000 (.int .i64) []),(5,.p (.int .i64))]
abbrev bx1:List (Nat×Ty):= [(1000000,.dyn (.int .i64))]
abbrev ow:List (Nat×Ty):= [(1000000,.dyn (.int .i64))]
abbrev mg:List (Nat×Sh):= []
abbrev mH:List (Nat×Ty):= []
abbrev qo:List (Nat×Ty):= []
abbrev X1:Type:=Unit×Unit×Int×(Nat×Nat)×Int×Unit
abbrev Y1:Type:=(Bool×List Int)×Unit
abbrev U1:Type:=Unit
abbrev V1:Type:=Unit
noncomputable def g1 {Z:Type} (rq:Bool→Z→Z) (kn:X1→Y1→Z) (ke:Nat→X1→Y1→Z) (kr:U1→V1→Z) (x:X1) (y:Y1):Z:=
lt ((x.2.2.2.1.2:Nat):Int) fun (v1342:Int)=>
lt (ilt x.2.2.2.2.1 v1342) fun v1343=>
bif v1343 then
lt ((x.2.2.2.1.1+x.2.2.2.2.1.toNat)) fun (n1344:Nat)=>
rq (ile (0:Int) x.2.2.2.2.1&&ilt x.2.2.2.2.1 ((x.2.2.2.1.2:Nat):Int))<|
lt (y.1.2.getD n1344 0) fun (v1345:Int)=>
lt (IntKind.i64.wrap (x.2.2.2.2.1 - 1)) fun v1346=>
lt ((x.2.2.2.1.1+v1346.toNat)) fun (n1347:Nat)=>
rq (ile (0:Int) v1346&&ilt v1346 ((x.2.2.2.1.2:Nat):Int))<|
lt (y.1.2.getD n1347 0) fun (v1348:Int)=>
lt (v1345 != v1348) fun (v1349:Bool)=>
bif v1349 then
lt ((x.2.2.2.1.1+x.2.2.2.2.1.toNat)) fun (n1350:Nat)=>
rq (ile (0:Int) x.2.2.2.2.1&&ilt x.2.2.2.2.1 ((x.2.2.2.1.2:Nat):Int))<|
lt (y.1.2.getD n1350 0) fun (v1351:Int)=>
rq (ile (0:Int) x.2.2.1&&ilt x.2.2.1 (y.1.2.length:Int))<|
lt (y.1.2.set x.2.2.1.toNat v1351) fun (v1352:(List Int))=>
lt (IntKind.i64.wrap (x.2.2.1+1)) fun v1353=>
lt (IntKind.i64.wrap (x.2.2.2.2.1+1)) fun v1354=>
kn ((),(),v1353,(x.2.2.2.1.1,x.2.2.2.1.2),v1354,()) ((y.1.1,v1352),())
else
lt (IntKind.i64.wrap (x.2.2.2.2.1+1)) fun v1355=>
kn ((),(),x.2.2.1,(x.2.2.2.1.1,x.2.2.2.1.2),v1355,()) (y.1,())
else
ke 2 ((),(),x.2.2.1,(x.2.2.2.1.1,x.2.2.2.1.2),x.2.2.2.2.1,()) (y.1,())
noncomputable def fu1 (x:X1) (y:Y1):Nat:=(((x.2.2.2.1.2:Nat):Int) - x.2.2.2.2.1).toNat+1
noncomputable def l1 (x:X1) (y:Y1):Bool×Nat×X1×Y1×U1×V1:=rounds (fun rq kn ke kr x y=>g1 rq kn ke kr x y) () () (fu1 x y) x y
abbrev sh0:List (Nat×Sh):= [(0,.va 1000000 (.int .i64)),(2,.nil),(3,.p (.int .i64))]
abbrev bx0:List (Nat×Ty):= [(1000000,.dyn (.int .i64))]
abbrev aW:List (Nat×Ty):= [(1000000,.dyn (.int .i64))]
abbrev aM:List (Nat×Sh):= [(2,.vs 1000000 (.int .i64) [])]
abbrev aN:List (Nat×Ty):= [(1000000,.dyn (.int .i64))]
abbrev bC:List (Nat×Ty):= [(1000000,.dyn (.int .i64))]
abbrev X0:Type:=Unit×Unit×Int×Unit
abbrev Y0:Type:=(Bool×List Int)×Unit
abbrev U0:Type:=(Nat×Nat)×Unit
abbrev V0:Type:=(Bool×List Int)×Unit
noncomputable def g0 {Z:Type} (rq:Bool→Z→Z) (kn:X0→Y0→Z) (ke:Nat→X0→Y0→Z) (kr:U0→V0→Z) (x:X0) (y:Y0):Z:=
lt (y.1.2.length:Int) fun (v1333:Int)=>
lt (ilt x.2.2.1 v1333) fun v1334=>
bif v1334 then
rq (ile (0:Int) x.2.2.1&&ilt x.2.2.1 (y.1.2.length:Int))<|
lt (y.1.2.getD x.2.2.1.toNat 0) fun (v1335:Int)=>
lt (IntKind.i64.wrap (x.2.2.1 - 1)) fun v1336=>
rq (ile (0:Int) v1336&&ilt v1336 (y.1.2.length:Int))<|
lt (y.1.2.getD v1336.toNat 0) fun (v1337:Int)=>
lt (v1335== v1337) fun (v1338:Bool)=>
bif v1338 then
lt (((y.1.2.length:Int).toNat - x.2.2.1.toNat)) fun (n1339:Nat)=>
rq ((ile (0:Int) x.2.2.1&&ile x.2.2.1 (y.1.2.length:Int))&&ile (y.1.2.length:Int) (y.1.2.length:Int))<|
lt (bF.l1 ((),(),x.2.2.1,(x.2.2.1.toNat,n1339),1,()) (y.1,())) fun w1356=>
rq w1356.1<|
lt (((w1356.2.2.2.1.1.2.length:Int).toNat - w1356.2.2.1.2.2.1.toNat)) fun (n1357:Nat)=>
rq ((ile (0:Int) w1356.2.2.1.2.2.1&&ile w1356.2.2.1.2.2.1 (w1356.2.2.2.1.1.2.length:Int))&&ile (w1356.2.2.2.1.1.2.length:Int) (w1356.2.2.2.1.1.2.length:Int))<|
lt (over w1356.2.2.2.1.1.2 w1356.2.2.1.2.2.1.toNat (List.replicate n1357 0)) fun (v1358:(List Int))=>
rq (ile (0:Int) w1356.2.2.1.2.2.1&&ile w1356.2.2.1.2.2.1 (v1358.length:Int))<|
kr ((0,w1356.2.2.1.2.2.1.toNat),()) ((w1356.2.2.2.1.1.1,v1358),())
else
lt (IntKind.i64.wrap (x.2.2.1+1)) fun v1359=>
kn ((),(),v1359,()) (y.1,())
else
ke 0 ((),(),x.2.2.1,()) (y.1,())
noncomputable def fu0 (x:X0) (y:Y0):Nat:=((y.1.2.length:Int) - x.2.2.1).toNat+1
noncomputable def l0 (x:X0) (y:Y0):Bool×Nat×X0×Y0×U0×V0:=rounds (fun rq kn ke kr x y=>g0 rq kn ke kr x y) ((0,0),()) ((true,[]),()) (fu0 x y) x y
noncomputable def g {Z:Type} (rq:Bool→Z→Z) (rt:X→Z) (b:(Bool×List Int)):Z:=
lt (b.2.length:Int) fun (v1329:Int)=>
lt (ilt v1329 2) fun v1330=>
bif v1330 then
rt b.2
else
lt (bF.l0 ((),(),1,()) (b,())) fun w1360=>
rq w1360.1<|
bif Nat.beq w1360.2.1 0 then
rt ((w1360.2.2.2.2.2.1.2.drop w1360.2.2.2.2.1.1.1).take w1360.2.2.2.2.1.1.2)
else
rt w1360.2.2.2.1.1.2
noncomputable def r (b:(Bool×List Int)):Bool×X:=g chk (fun x=>(true,x)) b
noncomputable def D:aP:=Dof (P:=Tryz.prog) []
noncomputable def tab:List (Nat×LE Res):= [(10,.typed (fH 61 sh1 bx1 ow mg mH (bf [3] (rounds (fun rq kn ke kr x y=>g1 rq kn ke kr x y) () ()) fu1))),(5,.typed (fH 61 sh0 bx0 aW aM aN (bf [0,1] (rounds (fun rq kn ke kr x y=>g0 rq kn ke kr x y) ((0,0),()) ((true,[]),())) fu0)))]
set_option maxRecDepth 100000 in
theorem run (b:(Bool×List Int)):aQ E0 [true] D (aJ E0 D tab 9) Tryz.f57 (codeOf Tryz.f57) [.va 1000000 (.int .i64)] [⟨.dyn (.int .i64),b⟩]=g (fun c z=>req c z) (fun x=>some (res x)) b:=by kernel_rfl
theorem rel (b:(Bool×List Int)):J (fun w z=>z=some (res w)) (g chk (fun x=>(true,x)) b) (g (fun c z=>req c z) (fun x=>some (res x)) b):=by
 unfold g
 with_reducible repeat (first|(apply J.lt; intro _)|apply J.rq|apply J.bif|exact J.rt rfl)
set_option maxRecDepth 100000 in
theorem rJ (x:ShX sh1) (y:BxX bx1) (kn:ShX sh1→BxX bx1→Option Res) (ke:Nat→ShX sh1→BxX bx1→Option Res) (kr:ShX mg→BxX mH→Option Res):d9 E0 D (aJ E0 D tab 8) (aD (codeOf Tryz.f57) 1) (inj 61 sh1 bx1 x y) (dN sh1 bx1 ow mg mH qo kn ke kr)=g1 (fun c z=>req c z) kn ke kr x y:=by kernel_rfl
theorem vQ:Nonempty (Told E0 D tab Tryz.f57.ntmps (aD (codeOf Tryz.f57) 1) 61 sh1 bx1 ow mg mH (bf [3] (rounds (fun rq kn ke kr x y=>g1 rq kn ke kr x y) () ()) fu1)):=
 dh (sh:=sh1) (bx:=bx1) (ord:=ow) (shR:=mg) (bxR:=mH) qo 8 (by kernel_rfl) (by kernel_rfl) (by kernel_rfl) [3] fu1 () () (fun rq kn ke kr x y=>g1 rq kn ke kr x y) (fun rq kn ke kr x y=>g1 rq kn ke kr x y) (rJ) (by
  intro φ kn1 kn2 ke1 ke2 kr1 kr2 h1 h2 h3 x y
  simp only [g1]
  with_reducible repeat (first|(apply J.lt; intro _)|apply J.rq|apply J.bif|exact h1 _ _|exact h2 _ (by decide) _ _|exact h3 (by decide) _ _))
set_option maxRecDepth 100000 in
theorem bG (x:ShX sh0) (y:BxX bx0) (kn:ShX sh0→BxX bx0→Option Res) (ke:Nat→ShX sh0→BxX bx0→Option Res) (kr:ShX aM→BxX aN→Option Res):d9 E0 D (aJ E0 D tab 8) (aD (codeOf Tryz.f57) 0) (inj 61 sh0 bx0 x y) (dN sh0 bx0 aW aM aN bC kn ke kr)=g0 (fun c z=>req c z) kn ke kr x y:=by kernel_rfl
theorem cB:Nonempty (Told E0 D tab Tryz.f57.ntmps (aD (codeOf Tryz.f57) 0) 61 sh0 bx0 aW aM aN (bf [0,1] (rounds (fun rq kn ke kr x y=>g0 rq kn ke kr x y) ((0,0),()) ((true,[]),())) fu0)):=
 dh (sh:=sh0) (bx:=bx0) (ord:=aW) (shR:=aM) (bxR:=aN) bC 8 (by kernel_rfl) (by kernel_rfl) (by kernel_rfl) [0,1] fu0 ((0,0),()) ((true,[]),()) (fun rq kn ke kr x y=>g0 rq kn ke kr x y) (fun rq kn ke kr x y=>g0 rq kn ke kr x y) (bG) (by
  intro φ kn1 kn2 ke1 ke2 kr1 kr2 h1 h2 h3 x y
  simp only [g0]
  with_reducible repeat (first|(apply J.lt; intro _)|apply J.rq|apply J.bif|exact h1 _ _|exact h2 _ (by decide) _ _|exact h3 (by decide) _ _))
theorem cK:fQ E0 D tab Tryz.f57.ntmps (codeOf Tryz.f57):=bY (bs:= [aD (codeOf Tryz.f57) 0,aD (codeOf Tryz.f57) 1]) (by kernel_rfl) (aK (cZ (by kernel_rfl) (cB)) (aK (cZ (by kernel_rfl) (vQ)) bn))
theorem ok:dD Tryz.f57=true:=by kernel_rfl
abbrev aS:List AS:= [.one (.va 1000000 (.int .i64))]
abbrev bS:List Ty:= [.dyn (.int .i64)]
noncomputable def F (x:ASs aS) (y:Bs bS):Brn Res:=brn (r y.1)
theorem good (x:ASs aS) (y:Bs bS) (h:(F x y).res.1=true):Good Tryz.prog 57 (ASs.mk aS x) (Bs.mk bS y) (F x y).res.2:=
 aF hE0 (aA _) Tryz.func57 ok cK aj (run y.1) (rel y.1) h
noncomputable def ent:Ent Tryz.prog:=⟨57,shF aS bS F,aB good⟩
end bF
namespace lV
abbrev X:Type:=Bool
noncomputable def res (x:Bool):Res:=⟨[.val ⟨.bool,x⟩],[],[]⟩
noncomputable def brn (w:Bool×X):Brn Res:= .one w.1 (res w.2)
theorem aj (w:Bool×X):(brn w).res=(w.1,res w.2):=rfl
noncomputable def g {Z:Type} (rq:Bool→Z→Z) (rt:X→Z) (l:(List Int)):Z:=
bif l.isEmpty then
lt (gL.r []) fun w1323=>
rq w1323.1<|
lt (w1323.2.length:Int) fun (v1324:Int)=>
lt (l.length:Int) fun (v1325:Int)=>
lt (ilt v1324 v1325) fun v1326=>
rt v1326
else
lt (iB.r l) fun w1327=>
rq w1327.1<|
rq (nlt w1327.2.2.length 4611686018427387904)<|
lt (JL w1327.2.2) fun (v1328:(List Int))=>
lt (bF.r (w1327.2.1,v1328)) fun w1361=>
rq w1361.1<|
lt (w1361.2.length:Int) fun (v1362:Int)=>
lt (l.length:Int) fun (v1363:Int)=>
lt (ilt v1362 v1363) fun v1364=>
rt v1364
noncomputable def r (l:(List Int)):Bool×X:=g chk (fun x=>(true,x)) l
noncomputable def D:aP:=Dof (P:=Tryz.prog) [iB.UC,ru,Np gL.ent (bF.ent) rfl]
noncomputable def tab:List (Nat×LE Res):= []
set_option maxRecDepth 100000 in
theorem run (l:(List Int)):aQ E0 [true] D (aJ E0 D tab 9) Tryz.f33 (codeOf Tryz.f33) [.val ⟨.sl (.int .i64),l⟩] []=g (fun c z=>req c z) (fun x=>some (res x)) l:=by kernel_rfl
theorem rel (l:(List Int)):J (fun w z=>z=some (res w)) (g chk (fun x=>(true,x)) l) (g (fun c z=>req c z) (fun x=>some (res x)) l):=by
 unfold g
 with_reducible repeat (first|(apply J.lt; intro _)|apply J.rq|apply J.bif|exact J.rt rfl)
theorem ok:dD Tryz.f33=true:=by kernel_rfl
abbrev aS:List AS:= [.one (.val (.sl (.int .i64)))]
abbrev bS:List Ty:= []
noncomputable def F (x:ASs aS) (y:Bs bS):Brn Res:=brn (r x.1)
theorem good (x:ASs aS) (y:Bs bS) (h:(F x y).res.1=true):Good Tryz.prog 33 (ASs.mk aS x) (Bs.mk bS y) (F x y).res.2:=
 aF hE0 (aA _) Tryz.func33 ok aO aj (run x.1) (rel x.1) h
noncomputable def ent:Ent Tryz.prog:=⟨33,shF aS bS F,aB good⟩
end lV
namespace lW
abbrev X:Type:=Bool
noncomputable def res (x:Bool):Res:=⟨[.val ⟨.bool,x⟩],[],[]⟩
noncomputable def brn (w:Bool×X):Brn Res:= .one w.1 (res w.2)
theorem aj (w:Bool×X):(brn w).res=(w.1,res w.2):=rfl
noncomputable def g {Z:Type} (rq:Bool→Z→Z) (rt:X→Z) (a:(List Int)):Z:=
lt (ieq (a.getD 0 0) 0&&(ieq (a.getD 1 0) 0&&(ieq (a.getD 2 0) 0&&(ieq (a.getD 3 0) 0&&true)))) fun v1379=>
rt v1379
noncomputable def r (a:(List Int)):Bool×X:=g chk (fun x=>(true,x)) a
noncomputable def D:aP:=Dof (P:=Tryz.prog) []
noncomputable def tab:List (Nat×LE Res):= []
set_option maxRecDepth 100000 in
theorem run (a:(List Int)):aQ E0 [true] D (aJ E0 D tab 9) Tryz.f58 (codeOf Tryz.f58) [.val ⟨.arr 4 (.int .u64),a⟩] []=g (fun c z=>req c z) (fun x=>some (res x)) a:=by kernel_rfl
theorem rel (a:(List Int)):J (fun w z=>z=some (res w)) (g chk (fun x=>(true,x)) a) (g (fun c z=>req c z) (fun x=>some (res x)) a):=by
 unfold g
 with_reducible repeat (first|(apply J.lt; intro _)|apply J.rq|apply J.bif|exact J.rt rfl)
theorem ok:dD Tryz.f58=true:=by kernel_rfl
abbrev aS:List AS:= [.one (.val (.arr 4 (.int .u64)))]
abbrev bS:List Ty:= []
noncomputable def F (x:ASs aS) (y:Bs bS):Brn Res:=brn (r x.1)
theorem good (x:ASs aS) (y:Bs bS) (h:(F x y).res.1=true):Good Tryz.prog 58 (ASs.mk aS x) (Bs.mk bS y) (F x y).res.2:=
 aF hE0 (aA _) Tryz.func58 ok aO aj (run x.1) (rel x.1) h
noncomputable def ent:Ent Tryz.prog:=⟨58,shF aS bS F,aB good⟩
end lW
namespace lZ
abbrev X:Type:=(List Int)
noncomputable def res (x:(List Int)):Res:=⟨[.val ⟨.arr 4 (.int .u64),x⟩],[],[]⟩
noncomputable def brn (w:Bool×X):Brn Res:= .one w.1 (res w.2)
theorem aj (w:Bool×X):(brn w).res=(w.1,res w.2):=rfl
noncomputable def g {Z:Type} (rq:Bool→Z→Z) (rt:X→Z) (gx:(Option ai)) (a:(List Int)) (b:(List Int)):Z:=
lt (gI.r gx) fun w1383=>
rq w1383.1<|
lt (iA.r a b w1383.2) fun w1384=>
rq w1384.1<|
rt w1384.2.1
noncomputable def r (gx:(Option ai)) (a:(List Int)) (b:(List Int)):Bool×X:=g chk (fun x=>(true,x)) gx a b
noncomputable def D:aP:=Dof (P:=Tryz.prog) [gI.ent,iA.ent]
noncomputable def tab:List (Nat×LE Res):= []
set_option maxRecDepth 100000 in
theorem run (gx:(Option ai)) (a:(List Int)) (b:(List Int)):aQ E0 [true] D (aJ E0 D tab 9) Tryz.f59 (codeOf Tryz.f59) [.val ⟨.ref au,gx⟩,.val ⟨.arr 4 (.int .u64),a⟩,.val ⟨.arr 4 (.int .u64),b⟩] []=g (fun c z=>req c z) (fun x=>some (res x)) gx a b:=by kernel_rfl
theorem rel (gx:(Option ai)) (a:(List Int)) (b:(List Int)):J (fun w z=>z=some (res w)) (g chk (fun x=>(true,x)) gx a b) (g (fun c z=>req c z) (fun x=>some (res x)) gx a b):=by
 unfold g
 with_reducible repeat (first|(apply J.lt; intro _)|apply J.rq|apply J.bif|exact J.rt rfl)
theorem ok:dD Tryz.f59=true:=by kernel_rfl
abbrev aS:List AS:= [.one (.val (.ref au)),.one (.val (.arr 4 (.int .u64))),.one (.val (.arr 4 (.int .u64)))]
abbrev bS:List Ty:= []
noncomputable def F (x:ASs aS) (y:Bs bS):Brn Res:=brn (r x.1 x.2.1 x.2.2.1)
theorem good (x:ASs aS) (y:Bs bS) (h:(F x y).res.1=true):Good Tryz.prog 59 (ASs.mk aS x) (Bs.mk bS y) (F x y).res.2:=
 aF hE0 (aA _) Tryz.func59 ok aO aj (run x.1 x.2.1 x.2.2.1) (rel x.1 x.2.1 x.2.2.1) h
noncomputable def ent:Ent Tryz.prog:=⟨59,shF aS bS F,aB good⟩
end lZ
namespace gW
abbrev X:Type:=(List Int)×Int
noncomputable def res (x:(List Int)×Int):Res:=⟨[.val ⟨.arr 4 (.int .u64),x.1⟩,.val ⟨.int .i64,x.2⟩],[],[]⟩
noncomputable def brn (w:Bool×X):Brn Res:= .one w.1 (res w.2)
theorem aj (w:Bool×X):(brn w).res=(w.1,res w.2):=rfl
abbrev sh0:List (Nat×Sh):= [(3,.pb 500000 (.arr 4 (.int .u64)) []),(4,.pb 500001 (.arr 4 (.int .u64)) []),(5,.p (.int .i64)),(6,.pb 500002 (.arr 4 (.int .u64)) []),(8,.pb 500003 (.arr 4 (.int .u64)) []),(9,.pb 500004 (.arr 4 (.int .u64)) []),(10,.pb 500005 (.arr 4 (.int .u64)) [])]
abbrev bx0:List (Nat×Ty):= [(500000,.arr 4 (.int .u64)),(500001,.arr 4 (.int .u64)),(500002,.arr 4 (.int .u64)),(500003,.arr 4 (.int .u64)),(500004,.arr 4 (.int .u64)),(500005,.arr 4 (.int .u64))]
abbrev aW:List (Nat×Ty):= [(500000,.arr 4 (.int .u64)),(500001,.arr 4 (.int .u64)),(500002,.arr 4 (.int .u64)),(500003,.arr 4 (.int .u64)),(500004,.arr 4 (.int .u64)),(500005,.arr 4 (.int .u64))]
abbrev aM:List (Nat×Sh):= []
abbrev aN:List (Nat×Ty):= []
abbrev bC:List (Nat×Ty):= []
abbrev X0:Type:=Unit×Unit×Int×Unit×Unit×Unit×Unit×Unit
abbrev Y0:Type:=(List Int)×(List Int)×(List Int)×(List Int)×(List Int)×(List Int)×Unit
abbrev U0:Type:=Unit
abbrev V0:Type:=Unit
noncomputable def g0 {Z:Type} (rq:Bool→Z→Z) (kn:X0→Y0→Z) (ke:Nat→X0→Y0→Z) (kr:U0→V0→Z) (x:X0) (y:Y0):Z:=
lt (!(ieq (y.2.2.1.getD 0 0) 0&&(ieq (y.2.2.1.getD 1 0) 0&&(ieq (y.2.2.1.getD 2 0) 0&&(ieq (y.2.2.1.getD 3 0) 0&&true))))) fun (v1393:Bool)=>
bif v1393 then
lt (kX.r y.2.2.2.1 y.2.2.1) fun w1394=>
rq w1394.1<|
lt (jB.r w1394.2.1 y.2.2.2.2.2.1 y.1) fun w1395=>
rq w1395.1<|
lt (iA.r y.2.2.2.2.1 w1395.2.1 y.1) fun w1396=>
rq w1396.1<|
kn ((),(),x.2.2.1,(),(),(),(),()) (y.1,y.2.1,w1394.2.2.1,y.2.2.1,y.2.2.2.2.2.1,w1396.2.1,())
else
ke 0 ((),(),x.2.2.1,(),(),(),(),()) (y.1,y.2.1,y.2.2.1,y.2.2.2.1,y.2.2.2.2.1,y.2.2.2.2.2.1,())
noncomputable def fu0 (x:X0) (y:Y0):Nat:=uJ
noncomputable def l0 (x:X0) (y:Y0):Bool×Nat×X0×Y0×U0×V0:=rounds (fun rq kn ke kr x y=>g0 rq kn ke kr x y) () () (fu0 x y) x y
noncomputable def g {Z:Type} (rq:Bool→Z→Z) (rt:X→Z) (a:(List Int)) (m:(List Int)):Z:=
lt (eO.r 2) fun w1387=>
rq w1387.1<|
lt (jm.r m w1387.2) fun w1388=>
rq w1388.1<|
lt (ilt w1388.2 0) fun v1389=>
bif v1389 then
rt ([0,0,0,0],1)
else
lt (gK.r a [0,0,0,0] m) fun w1390=>
rq w1390.1<|
lt (eO.r 1) fun w1391=>
rq w1391.1<|
lt (gW.l0 ((),(),0,(),(),(),(),()) (m,[0,0,0,0],w1390.2.1,m,[0,0,0,0],w1391.2,())) fun w1397=>
rq w1397.1<|
lt (eO.r 1) fun w1398=>
rq w1398.1<|
lt (!(ieq (w1397.2.2.2.1.2.2.2.1.getD 0 0) (w1398.2.getD 0 0)&&(ieq (w1397.2.2.2.1.2.2.2.1.getD 1 0) (w1398.2.getD 1 0)&&(ieq (w1397.2.2.2.1.2.2.2.1.getD 2 0) (w1398.2.getD 2 0)&&(ieq (w1397.2.2.2.1.2.2.2.1.getD 3 0) (w1398.2.getD 3 0)&&true))))) fun (v1399:Bool)=>
bif v1399 then
rt ([0,0,0,0],3)
else
rt (w1397.2.2.2.1.2.2.2.2.1,0)
noncomputable def r (a:(List Int)) (m:(List Int)):Bool×X:=g chk (fun x=>(true,x)) a m
noncomputable def D:aP:=Dof (P:=Tryz.prog) [eO.ent,jm.ent,gK.ent,kX.ent,jB.ent,iA.ent]
noncomputable def tab:List (Nat×LE Res):= [(6,.typed (fH 66 sh0 bx0 aW aM aN (bf [1] (rounds (fun rq kn ke kr x y=>g0 rq kn ke kr x y) () ()) fu0)))]
set_option maxRecDepth 100000 in
theorem run (a:(List Int)) (m:(List Int)):aQ E0 [true,true] D (aJ E0 D tab 9) Tryz.f90 (codeOf Tryz.f90) [.val ⟨.arr 4 (.int .u64),a⟩,.val ⟨.arr 4 (.int .u64),m⟩] []=g (fun c z=>req c z) (fun x=>some (res x)) a m:=by kernel_rfl
theorem rel (a:(List Int)) (m:(List Int)):J (fun w z=>z=some (res w)) (g chk (fun x=>(true,x)) a m) (g (fun c z=>req c z) (fun x=>some (res x)) a m):=by
 unfold g
 with_reducible repeat (first|(apply J.lt; intro _)|apply J.rq|apply J.bif|exact J.rt rfl)
set_option maxRecDepth 100000 in
theorem bG (x:ShX sh0) (y:BxX bx0) (kn:ShX sh0→BxX bx0→Option Res) (ke:Nat→ShX sh0→BxX bx0→Option Res) (kr:ShX aM→BxX aN→Option Res):d9 E0 D (aJ E0 D tab 8) (aD (codeOf Tryz.f90) 0) (inj 66 sh0 bx0 x y) (dN sh0 bx0 aW aM aN bC kn ke kr)=g0 (fun c z=>req c z) kn ke kr x y:=by kernel_rfl
theorem cB:Nonempty (Told E0 D tab Tryz.f90.ntmps (aD (codeOf Tryz.f90) 0) 66 sh0 bx0 aW aM aN (bf [1] (rounds (fun rq kn ke kr x y=>g0 rq kn ke kr x y) () ()) fu0)):=
 dh (sh:=sh0) (bx:=bx0) (ord:=aW) (shR:=aM) (bxR:=aN) bC 8 (by kernel_rfl) (by kernel_rfl) (by kernel_rfl) [1] fu0 () () (fun rq kn ke kr x y=>g0 rq kn ke kr x y) (fun rq kn ke kr x y=>g0 rq kn ke kr x y) (bG) (by
  intro φ kn1 kn2 ke1 ke2 kr1 kr2 h1 h2 h3 x y
  simp only [g0]
  with_reducible repeat (first|(apply J.lt; intro _)|apply J.rq|apply J.bif|exact h1 _ _|exact h2 _ (by decide) _ _|exact h3 (by decide) _ _))
theorem cK:fQ E0 D tab Tryz.f90.ntmps (codeOf Tryz.f90):=bY (bs:= [aD (codeOf Tryz.f90) 0]) (by kernel_rfl) (aK (cZ (by kernel_rfl) (cB)) bn)
theorem ok:dD Tryz.f90=true:=by kernel_rfl
abbrev aS:List AS:= [.one (.val (.arr 4 (.int .u64))),.one (.val (.arr 4 (.int .u64)))]
abbrev bS:List Ty:= []
noncomputable def F (x:ASs aS) (y:Bs bS):Brn Res:=brn (r x.1 x.2.1)
theorem good (x:ASs aS) (y:Bs bS) (h:(F x y).res.1=true):Good Tryz.prog 90 (ASs.mk aS x) (Bs.mk bS y) (F x y).res.2:=
 aF hE0 (aA _) Tryz.func90 ok cK aj (run x.1 x.2.1) (rel x.1 x.2.1) h
noncomputable def ent:Ent Tryz.prog:=⟨90,shF aS bS F,aB good⟩
end gW
namespace oN
abbrev X:Type:=(List Int)
noncomputable def res (x:(List Int)):Res:=⟨[.val ⟨.arr 4 (.int .u64),x⟩],[],[]⟩
noncomputable def brn (w:Bool×X):Brn Res:= .one w.1 (res w.2)
theorem aj (w:Bool×X):(brn w).res=(w.1,res w.2):=rfl
noncomputable def g {Z:Type} (rq:Bool→Z→Z) (rt:X→Z) (gx:(Option ai)) (a:(List Int)):Z:=
lt (gI.r gx) fun w1386=>
rq w1386.1<|
lt (gW.r a w1386.2) fun w1400=>
rq w1400.1<|
lt (w1400.2.2 != 0) fun (v1401:Bool)=>
bif v1401 then
rt [0,0,0,0]
else
rt w1400.2.1
noncomputable def r (gx:(Option ai)) (a:(List Int)):Bool×X:=g chk (fun x=>(true,x)) gx a
noncomputable def D:aP:=Dof (P:=Tryz.prog) [gI.ent,gW.ent]
noncomputable def tab:List (Nat×LE Res):= []
set_option maxRecDepth 100000 in
theorem run (gx:(Option ai)) (a:(List Int)):aQ E0 [true] D (aJ E0 D tab 9) Tryz.f62 (codeOf Tryz.f62) [.val ⟨.ref au,gx⟩,.val ⟨.arr 4 (.int .u64),a⟩] []=g (fun c z=>req c z) (fun x=>some (res x)) gx a:=by kernel_rfl
theorem rel (gx:(Option ai)) (a:(List Int)):J (fun w z=>z=some (res w)) (g chk (fun x=>(true,x)) gx a) (g (fun c z=>req c z) (fun x=>some (res x)) gx a):=by
 unfold g
 with_reducible repeat (first|(apply J.lt; intro _)|apply J.rq|apply J.bif|exact J.rt rfl)
theorem ok:dD Tryz.f62=true:=by kernel_rfl
abbrev aS:List AS:= [.one (.val (.ref au)),.one (.val (.arr 4 (.int .u64)))]
abbrev bS:List Ty:= []
noncomputable def F (x:ASs aS) (y:Bs bS):Brn Res:=brn (r x.1 x.2.1)
theorem good (x:ASs aS) (y:Bs bS) (h:(F x y).res.1=true):Good Tryz.prog 62 (ASs.mk aS x) (Bs.mk bS y) (F x y).res.2:=
 aF hE0 (aA _) Tryz.func62 ok aO aj (run x.1 x.2.1) (rel x.1 x.2.1) h
noncomputable def ent:Ent Tryz.prog:=⟨62,shF aS bS F,aB good⟩
end oN
namespace mO
abbrev X:Type:=(List Int)
noncomputable def res (x:(List Int)):Res:=⟨[.val ⟨.arr 4 (.int .u64),x⟩],[],[]⟩
noncomputable def brn (w:Bool×X):Brn Res:= .one w.1 (res w.2)
theorem aj (w:Bool×X):(brn w).res=(w.1,res w.2):=rfl
noncomputable def g {Z:Type} (rq:Bool→Z→Z) (rt:X→Z) (f:(List (List Int))) (kx:Int):Z:=
lt (ilt kx 0) fun v1409=>
bif v1409 then
rt [0,0,0,0]
else
lt (f.length:Int) fun (v1410:Int)=>
lt (ile v1410 kx) fun v1411=>
bif v1411 then
rt [0,0,0,0]
else
lt (f.getD kx.toNat [0,0,0,0]) fun (v1412:(List Int))=>
rq (ile (0:Int) kx&&ilt kx (f.length:Int))<|
rt v1412
noncomputable def r (f:(List (List Int))) (kx:Int):Bool×X:=g chk (fun x=>(true,x)) f kx
noncomputable def D:aP:=Dof (P:=Tryz.prog) []
noncomputable def tab:List (Nat×LE Res):= []
set_option maxRecDepth 100000 in
theorem run (f:(List (List Int))) (kx:Int):aQ E0 [true] D (aJ E0 D tab 9) Tryz.f88 (codeOf Tryz.f88) [.val ⟨.sl (.arr 4 (.int .u64)),f⟩,.val ⟨.int .i64,kx⟩] []=g (fun c z=>req c z) (fun x=>some (res x)) f kx:=by kernel_rfl
theorem rel (f:(List (List Int))) (kx:Int):J (fun w z=>z=some (res w)) (g chk (fun x=>(true,x)) f kx) (g (fun c z=>req c z) (fun x=>some (res x)) f kx):=by
 unfold g
 with_reducible repeat (first|(apply J.lt; intro _)|apply J.rq|apply J.bif|exact J.rt rfl)
theorem ok:dD Tryz.f88=true:=by kernel_rfl
abbrev aS:List AS:= [.one (.val (.sl (.arr 4 (.int .u64)))),.one (.val (.int .i64))]
abbrev bS:List Ty:= []
noncomputable def F (x:ASs aS) (y:Bs bS):Brn Res:=brn (r x.1 x.2.1)
theorem good (x:ASs aS) (y:Bs bS) (h:(F x y).res.1=true):Good Tryz.prog 88 (ASs.mk aS x) (Bs.mk bS y) (F x y).res.2:=
 aF hE0 (aA _) Tryz.func88 ok aO aj (run x.1 x.2.1) (rel x.1 x.2.1) h
noncomputable def ent:Ent Tryz.prog:=⟨88,shF aS bS F,aB good⟩
end mO
end Go.Own
