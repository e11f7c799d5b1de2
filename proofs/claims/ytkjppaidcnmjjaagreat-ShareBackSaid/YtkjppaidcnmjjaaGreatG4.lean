/- What functions compute, printed by wip/gen/gen2.py. -/
import Derived.Test.YtkjppaidcnmjjaaGreatG3
set_option linter.unusedVariables false
set_option linter.unusedSimpArgs false
namespace Go.Own
open Go.Proofs Go.Proofs.YtkjppaidcnmjjaaGreat
namespace bX
abbrev X:Type:=Int×Bool
noncomputable def res (x:Int×Bool):Res:=⟨[.val ⟨.int .i64,x.1⟩,.val ⟨.bool,x.2⟩],[],[]⟩
noncomputable def brn (w:Bool×X):Brn Res:= .one w.1 (res w.2)
theorem aj (w:Bool×X):(brn w).res=(w.1,res w.2):=rfl
abbrev sh0:List (Nat×Sh):= [(2,.p (.int .i64)),(3,.p .bool),(4,.p (.int .i64)),(5,.pb 500000 (.arr 256 .bool) []),(6,.p (.int .i64))]
abbrev bx0:List (Nat×Ty):= [(500000,.arr 256 .bool)]
abbrev aW:List (Nat×Ty):= [(500000,.arr 256 .bool)]
abbrev aM:List (Nat×Sh):= []
abbrev aN:List (Nat×Ty):= []
abbrev bC:List (Nat×Ty):= []
abbrev X0:Type:=Int×Bool×Int×Unit×Int×Unit
abbrev Y0:Type:=(List Bool)×Unit
abbrev U0:Type:=Unit
abbrev V0:Type:=Unit
noncomputable def g0 {Z:Type} (rq:Bool→Z→Z) (kn:X0→Y0→Z) (ke:Nat→X0→Y0→Z) (kr:U0→V0→Z) (x:X0) (y:Y0):Z:=
lt (ilt x.2.2.2.2.1 63) fun v1153=>
bif v1153 then
rq (ile (0:Int) x.2.2.2.2.1&&ilt x.2.2.2.2.1 256)<|
lt (y.1.getD x.2.2.2.2.1.toNat false) fun (v1154:Bool)=>
bif v1154 then
lt (IntKind.i64.wrap ((1:Int)*2^(min x.2.2.2.2.1.toNat 64))) fun v1155=>
rq (!ilt x.2.2.2.2.1 0)<|
lt (eB .i64 (· ||| ·) x.2.2.1 v1155) fun v1156=>
lt (IntKind.i64.wrap (x.2.2.2.2.1+1)) fun v1157=>
kn (x.1,x.2.1,v1156,(),v1157,()) (y.1,())
else
lt (IntKind.i64.wrap (x.2.2.2.2.1+1)) fun v1158=>
kn (x.1,x.2.1,x.2.2.1,(),v1158,()) (y.1,())
else
ke 0 (x.1,x.2.1,x.2.2.1,(),x.2.2.2.2.1,()) (y.1,())
noncomputable def fu0 (x:X0) (y:Y0):Nat:=((63:Int) - x.2.2.2.2.1).toNat+1
noncomputable def l0 (x:X0) (y:Y0):Bool×Nat×X0×Y0×U0×V0:=rounds (fun rq kn ke kr x y=>g0 rq kn ke kr x y) () () (fu0 x y) x y
noncomputable def g {Z:Type} (rq:Bool→Z→Z) (rt:X→Z) (a:(List Int)):Z:=
lt (bO.r a) fun w1140=>
rq w1140.1<|
lt (ilt 63 w1140.2) fun v1141=>
bif v1141 then
rt (0,false)
else
lt (dS.r a) fun w1142=>
rq w1142.1<|
lt (List.replicate 256 false) fun (v1143:(List Bool))=>
lt (bX.l0 (0,false,0,(),0,()) (w1142.2,())) fun w1159=>
rq w1159.1<|
rt (w1159.2.2.1.2.2.1,true)
noncomputable def r (a:(List Int)):Bool×X:=g chk (fun x=>(true,x)) a
noncomputable def D:aP:=Dof (P:=Tryz.prog) [bO.ent,dS.ent]
noncomputable def tab:List (Nat×LE Res):= [(7,.typed (fH 24 sh0 bx0 aW aM aN (bf [1] (rounds (fun rq kn ke kr x y=>g0 rq kn ke kr x y) () ()) fu0)))]
set_option maxRecDepth 100000 in
theorem run (a:(List Int)):aQ E0 [true,true] D (aJ E0 D tab 9) Tryz.f19 (codeOf Tryz.f19) [.val ⟨.arr 4 (.int .u64),a⟩] []=g (fun c z=>req c z) (fun x=>some (res x)) a:=by kernel_rfl
theorem rel (a:(List Int)):J (fun w z=>z=some (res w)) (g chk (fun x=>(true,x)) a) (g (fun c z=>req c z) (fun x=>some (res x)) a):=by
 unfold g
 with_reducible repeat (first|(apply J.lt; intro _)|apply J.rq|apply J.bif|exact J.rt rfl)
set_option maxRecDepth 100000 in
theorem bG (x:ShX sh0) (y:BxX bx0) (kn:ShX sh0→BxX bx0→Option Res) (ke:Nat→ShX sh0→BxX bx0→Option Res) (kr:ShX aM→BxX aN→Option Res):d9 E0 D (aJ E0 D tab 8) (aD (codeOf Tryz.f19) 0) (inj 24 sh0 bx0 x y) (dN sh0 bx0 aW aM aN bC kn ke kr)=g0 (fun c z=>req c z) kn ke kr x y:=by kernel_rfl
theorem cB:Nonempty (Told E0 D tab Tryz.f19.ntmps (aD (codeOf Tryz.f19) 0) 24 sh0 bx0 aW aM aN (bf [1] (rounds (fun rq kn ke kr x y=>g0 rq kn ke kr x y) () ()) fu0)):=
 dh (sh:=sh0) (bx:=bx0) (ord:=aW) (shR:=aM) (bxR:=aN) bC 8 (by kernel_rfl) (by kernel_rfl) (by kernel_rfl) [1] fu0 () () (fun rq kn ke kr x y=>g0 rq kn ke kr x y) (fun rq kn ke kr x y=>g0 rq kn ke kr x y) (bG) (by
  intro φ kn1 kn2 ke1 ke2 kr1 kr2 h1 h2 h3 x y
  simp only [g0]
  with_reducible repeat (first|(apply J.lt; intro _)|apply J.rq|apply J.bif|exact h1 _ _|exact h2 _ (by decide) _ _|exact h3 (by decide) _ _))
theorem cK:fQ E0 D tab Tryz.f19.ntmps (codeOf Tryz.f19):=bY (bs:= [aD (codeOf Tryz.f19) 0]) (by kernel_rfl) (aK (cZ (by kernel_rfl) (cB)) bn)
theorem ok:dD Tryz.f19=true:=by kernel_rfl
abbrev aS:List AS:= [.one (.val (.arr 4 (.int .u64)))]
abbrev bS:List Ty:= []
noncomputable def F (x:ASs aS) (y:Bs bS):Brn Res:=brn (r x.1)
theorem good (x:ASs aS) (y:Bs bS) (h:(F x y).res.1=true):Good Tryz.prog 19 (ASs.mk aS x) (Bs.mk bS y) (F x y).res.2:=
 aF hE0 (aA _) Tryz.func19 ok cK aj (run x.1) (rel x.1) h
noncomputable def ent:Ent Tryz.prog:=⟨19,shF aS bS F,aB good⟩
end bX
namespace dL
abbrev X:Type:=(Option ai)×Int×Bool
noncomputable def res (x:(Option ai)×Int×Bool):Res:=⟨[.val ⟨.ref au,x.1⟩,.val ⟨.int .i64,x.2.1⟩,.val ⟨.bool,x.2.2⟩],[],[]⟩
noncomputable def brn (w:Bool×X):Brn Res:= .one w.1 (res w.2)
theorem aj (w:Bool×X):(brn w).res=(w.1,res w.2):=rfl
noncomputable def g {Z:Type} (rq:Bool→Z→Z) (rt:X→Z) (which:Int):Z:=
lt (fZ.r which) fun w7=>
rq w7.1<|
lt (iZ.r w7.2) fun w1059=>
bif Nat.beq w1059.2.1 0 then
rq w1059.1<|
lt (iY.r w7.2) fun w1065=>
rq w1065.1<|
lt (bX.r w1065.2) fun w1160=>
rq w1160.1<|
lt (w1059.2.2.1.2== 0) fun (v1161:Bool)=>
rt (w1059.2.2.1.1,w1160.2.1,v1161)
else
rq w1059.1<|
lt (iY.r w7.2) fun w1162=>
rq w1162.1<|
lt (bX.r w1162.2) fun w1163=>
rq w1163.1<|
lt (w1059.2.2.2.1== 0) fun (v1164:Bool)=>
rt ((some w1059.2.2.2.2),w1163.2.1,v1164)
noncomputable def r (which:Int):Bool×X:=g chk (fun x=>(true,x)) which
noncomputable def D:aP:=Dof (P:=Tryz.prog) [fZ.ent,iZ.ent,iY.ent,bX.ent]
noncomputable def tab:List (Nat×LE Res):= []
set_option maxRecDepth 100000 in
theorem run (which:Int):aQ E0 [true,true,true] D (aJ E0 D tab 9) Tryz.f6 (codeOf Tryz.f6) [.val ⟨.int .i64,which⟩] []=g (fun c z=>req c z) (fun x=>some (res x)) which:=by kernel_rfl
theorem rel (which:Int):J (fun w z=>z=some (res w)) (g chk (fun x=>(true,x)) which) (g (fun c z=>req c z) (fun x=>some (res x)) which):=by
 unfold g
 with_reducible repeat (first|(apply J.lt; intro _)|apply J.rq|apply J.bif|exact J.rt rfl)
theorem ok:dD Tryz.f6=true:=by kernel_rfl
abbrev aS:List AS:= [.one (.val (.int .i64))]
abbrev bS:List Ty:= []
noncomputable def F (x:ASs aS) (y:Bs bS):Brn Res:=brn (r x.1)
theorem good (x:ASs aS) (y:Bs bS) (h:(F x y).res.1=true):Good Tryz.prog 6 (ASs.mk aS x) (Bs.mk bS y) (F x y).res.2:=
 aF hE0 (aA _) Tryz.func6 ok aO aj (run x.1) (rel x.1) h
noncomputable def ent:Ent Tryz.prog:=⟨6,shF aS bS F,aB good⟩
noncomputable def ro:Int→Bool×X:=Classical.choose (⟨r,rfl⟩:∃ q:Int→Bool×X,q=r)
theorem fT:ro=r:=Classical.choose_spec (⟨r,rfl⟩:∃ q:Int→Bool×X,q=r)
noncomputable def FO (x:ASs aS) (y:Bs bS):Brn Res:=brn (ro x.1)
theorem kY:FO=F:=by unfold FO F; rw [fT]
noncomputable def oF:Ent Tryz.prog:=⟨6,shF aS bS FO,aB (by rw [kY]; exact good)⟩
end dL
namespace dV
abbrev X:Type:=(List Int)
noncomputable def res (x:(List Int)):Res:=⟨[.val ⟨.arr 4 (.int .u64),x⟩],[],[]⟩
noncomputable def brn (w:Bool×X):Brn Res:= .one w.1 (res w.2)
theorem aj (w:Bool×X):(brn w).res=(w.1,res w.2):=rfl
abbrev sh0:List (Nat×Sh):= [(1,.pb 500000 (.arr 256 .bool) []),(2,.pb 500001 (.arr 4 (.int .u64)) []),(3,.pb 500002 (.arr 4 (.int .u64)) []),(4,.p (.int .i64))]
abbrev bx0:List (Nat×Ty):= [(500000,.arr 256 .bool),(500001,.arr 4 (.int .u64)),(500002,.arr 4 (.int .u64))]
abbrev aW:List (Nat×Ty):= [(500000,.arr 256 .bool),(500001,.arr 4 (.int .u64)),(500002,.arr 4 (.int .u64))]
abbrev aM:List (Nat×Sh):= []
abbrev aN:List (Nat×Ty):= []
abbrev bC:List (Nat×Ty):= []
abbrev X0:Type:=Unit×Unit×Unit×Int×Unit
abbrev Y0:Type:=(List Bool)×(List Int)×(List Int)×Unit
abbrev U0:Type:=Unit
abbrev V0:Type:=Unit
noncomputable def g0 {Z:Type} (rq:Bool→Z→Z) (kn:X0→Y0→Z) (ke:Nat→X0→Y0→Z) (kr:U0→V0→Z) (x:X0) (y:Y0):Z:=
lt (ilt x.2.2.2.1 256) fun v1186=>
bif v1186 then
rq (ile (0:Int) x.2.2.2.1&&ilt x.2.2.2.1 256)<|
lt (y.1.getD x.2.2.2.1.toNat false) fun (v1187:Bool)=>
bif v1187 then
lt (IntKind.i64.wrap (x.2.2.2.1.tdiv 64)) fun v1188=>
lt (IntKind.i64.wrap (x.2.2.2.1.tdiv 64)) fun v1189=>
rq (ile (0:Int) v1189&&ilt v1189 4)<|
lt (y.2.2.1.getD v1189.toNat 0) fun (v1190:Int)=>
lt (x.2.2.2.1.tmod 64) fun (v1191:Int)=>
lt (IntKind.u64.wrap ((1:Int)*2^(min v1191.toNat 64))) fun v1192=>
rq (!ilt v1191 0)<|
lt (eB .u64 (· ||| ·) v1190 v1192) fun v1193=>
rq (ile (0:Int) v1188&&ilt v1188 4)<|
lt (y.2.2.1.set v1188.toNat v1193) fun (v1194:(List Int))=>
lt (IntKind.i64.wrap (x.2.2.2.1+1)) fun v1195=>
kn ((),(),(),v1195,()) (y.1,y.2.1,v1194,())
else
lt (IntKind.i64.wrap (x.2.2.2.1+1)) fun v1196=>
kn ((),(),(),v1196,()) (y.1,y.2.1,y.2.2.1,())
else
ke 0 ((),(),(),x.2.2.2.1,()) (y.1,y.2.1,y.2.2.1,())
noncomputable def fu0 (x:X0) (y:Y0):Nat:=((256:Int) - x.2.2.2.1).toNat+1
noncomputable def l0 (x:X0) (y:Y0):Bool×Nat×X0×Y0×U0×V0:=rounds (fun rq kn ke kr x y=>g0 rq kn ke kr x y) () () (fu0 x y) x y
noncomputable def g {Z:Type} (rq:Bool→Z→Z) (rt:X→Z) (b:(List Bool)):Z:=
lt (dV.l0 ((),(),(),0,()) (b,[0,0,0,0],[0,0,0,0],())) fun w1197=>
rq w1197.1<|
rt w1197.2.2.2.1.2.2.1
noncomputable def r (b:(List Bool)):Bool×X:=g chk (fun x=>(true,x)) b
noncomputable def D:aP:=Dof (P:=Tryz.prog) []
noncomputable def tab:List (Nat×LE Res):= [(4,.typed (fH 25 sh0 bx0 aW aM aN (bf [1] (rounds (fun rq kn ke kr x y=>g0 rq kn ke kr x y) () ()) fu0)))]
set_option maxRecDepth 100000 in
theorem run (b:(List Bool)):aQ E0 [true] D (aJ E0 D tab 9) Tryz.f40 (codeOf Tryz.f40) [.val ⟨.arr 256 .bool,b⟩] []=g (fun c z=>req c z) (fun x=>some (res x)) b:=by kernel_rfl
theorem rel (b:(List Bool)):J (fun w z=>z=some (res w)) (g chk (fun x=>(true,x)) b) (g (fun c z=>req c z) (fun x=>some (res x)) b):=by
 unfold g
 with_reducible repeat (first|(apply J.lt; intro _)|apply J.rq|apply J.bif|exact J.rt rfl)
set_option maxRecDepth 100000 in
theorem bG (x:ShX sh0) (y:BxX bx0) (kn:ShX sh0→BxX bx0→Option Res) (ke:Nat→ShX sh0→BxX bx0→Option Res) (kr:ShX aM→BxX aN→Option Res):d9 E0 D (aJ E0 D tab 8) (aD (codeOf Tryz.f40) 0) (inj 25 sh0 bx0 x y) (dN sh0 bx0 aW aM aN bC kn ke kr)=g0 (fun c z=>req c z) kn ke kr x y:=by kernel_rfl
theorem cB:Nonempty (Told E0 D tab Tryz.f40.ntmps (aD (codeOf Tryz.f40) 0) 25 sh0 bx0 aW aM aN (bf [1] (rounds (fun rq kn ke kr x y=>g0 rq kn ke kr x y) () ()) fu0)):=
 dh (sh:=sh0) (bx:=bx0) (ord:=aW) (shR:=aM) (bxR:=aN) bC 8 (by kernel_rfl) (by kernel_rfl) (by kernel_rfl) [1] fu0 () () (fun rq kn ke kr x y=>g0 rq kn ke kr x y) (fun rq kn ke kr x y=>g0 rq kn ke kr x y) (bG) (by
  intro φ kn1 kn2 ke1 ke2 kr1 kr2 h1 h2 h3 x y
  simp only [g0]
  with_reducible repeat (first|(apply J.lt; intro _)|apply J.rq|apply J.bif|exact h1 _ _|exact h2 _ (by decide) _ _|exact h3 (by decide) _ _))
theorem cK:fQ E0 D tab Tryz.f40.ntmps (codeOf Tryz.f40):=bY (bs:= [aD (codeOf Tryz.f40) 0]) (by kernel_rfl) (aK (cZ (by kernel_rfl) (cB)) bn)
theorem ok:dD Tryz.f40=true:=by kernel_rfl
abbrev aS:List AS:= [.one (.val (.arr 256 .bool))]
abbrev bS:List Ty:= []
noncomputable def F (x:ASs aS) (y:Bs bS):Brn Res:=brn (r x.1)
theorem good (x:ASs aS) (y:Bs bS) (h:(F x y).res.1=true):Good Tryz.prog 40 (ASs.mk aS x) (Bs.mk bS y) (F x y).res.2:=
 aF hE0 (aA _) Tryz.func40 ok cK aj (run x.1) (rel x.1) h
noncomputable def ent:Ent Tryz.prog:=⟨40,shF aS bS F,aB good⟩
end dV
namespace bB
abbrev X:Type:=(List Int)
noncomputable def res (x:(List Int)):Res:=⟨[.val ⟨.arr 4 (.int .u64),x⟩],[],[]⟩
noncomputable def brn (w:Bool×X):Brn Res:= .one w.1 (res w.2)
theorem aj (w:Bool×X):(brn w).res=(w.1,res w.2):=rfl
abbrev sh0:List (Nat×Sh):= [(0,.p (.int .i64)),(2,.pb 500000 (.arr 4 (.int .u64)) []),(3,.pb 500001 (.arr 256 .bool) []),(4,.p (.int .i64))]
abbrev bx0:List (Nat×Ty):= [(500000,.arr 4 (.int .u64)),(500001,.arr 256 .bool)]
abbrev aW:List (Nat×Ty):= [(500000,.arr 4 (.int .u64)),(500001,.arr 256 .bool)]
abbrev aM:List (Nat×Sh):= []
abbrev aN:List (Nat×Ty):= []
abbrev bC:List (Nat×Ty):= []
abbrev X0:Type:=Int×Unit×Unit×Int×Unit
abbrev Y0:Type:=(List Int)×(List Bool)×Unit
abbrev U0:Type:=Unit
abbrev V0:Type:=Unit
noncomputable def g0 {Z:Type} (rq:Bool→Z→Z) (kn:X0→Y0→Z) (ke:Nat→X0→Y0→Z) (kr:U0→V0→Z) (x:X0) (y:Y0):Z:=
lt (ilt x.2.2.2.1 63) fun v1169=>
bif v1169 then
lt (ilt 0 x.1) fun v1170=>
bif v1170 then
lt (x.1.fdiv (2^(min x.2.2.2.1.toNat 64))) fun (v1171:Int)=>
rq (!ilt x.2.2.2.1 0)<|
lt (eB .i64 (· &&& ·) v1171 (1:Int)) fun v1172=>
lt (v1172== 1) fun (v1173:Bool)=>
rq (ile (0:Int) x.2.2.2.1&&ilt x.2.2.2.1 256)<|
lt (y.2.1.set x.2.2.2.1.toNat v1173) fun (v1174:(List Bool))=>
lt (IntKind.i64.wrap (x.2.2.2.1+1)) fun v1175=>
kn (x.1,(),(),v1175,()) (y.1,v1174,())
else
ke 0 (x.1,(),(),x.2.2.2.1,()) (y.1,y.2.1,())
else
ke 0 (x.1,(),(),x.2.2.2.1,()) (y.1,y.2.1,())
noncomputable def fu0 (x:X0) (y:Y0):Nat:=((63:Int) - x.2.2.2.1).toNat+1
noncomputable def l0 (x:X0) (y:Y0):Bool×Nat×X0×Y0×U0×V0:=rounds (fun rq kn ke kr x y=>g0 rq kn ke kr x y) () () (fu0 x y) x y
noncomputable def g {Z:Type} (rq:Bool→Z→Z) (rt:X→Z) (n:Int):Z:=
lt (List.replicate 256 false) fun (v1166:(List Bool))=>
lt (List.replicate 256 false) fun (v1167:(List Bool))=>
lt (bB.l0 (n,(),(),0,()) ([0,0,0,0],v1166,())) fun w1176=>
rq w1176.1<|
lt (dV.r w1176.2.2.2.1.2.1) fun w1198=>
rq w1198.1<|
rt w1198.2
noncomputable def r (n:Int):Bool×X:=g chk (fun x=>(true,x)) n
noncomputable def D:aP:=Dof (P:=Tryz.prog) [dV.ent]
noncomputable def tab:List (Nat×LE Res):= [(4,.typed (fH 23 sh0 bx0 aW aM aN (bf [1] (rounds (fun rq kn ke kr x y=>g0 rq kn ke kr x y) () ()) fu0)))]
set_option maxRecDepth 100000 in
theorem run (n:Int):aQ E0 [true] D (aJ E0 D tab 9) Tryz.f24 (codeOf Tryz.f24) [.val ⟨.int .i64,n⟩] []=g (fun c z=>req c z) (fun x=>some (res x)) n:=by kernel_rfl
theorem rel (n:Int):J (fun w z=>z=some (res w)) (g chk (fun x=>(true,x)) n) (g (fun c z=>req c z) (fun x=>some (res x)) n):=by
 unfold g
 with_reducible repeat (first|(apply J.lt; intro _)|apply J.rq|apply J.bif|exact J.rt rfl)
set_option maxRecDepth 100000 in
theorem bG (x:ShX sh0) (y:BxX bx0) (kn:ShX sh0→BxX bx0→Option Res) (ke:Nat→ShX sh0→BxX bx0→Option Res) (kr:ShX aM→BxX aN→Option Res):d9 E0 D (aJ E0 D tab 8) (aD (codeOf Tryz.f24) 0) (inj 23 sh0 bx0 x y) (dN sh0 bx0 aW aM aN bC kn ke kr)=g0 (fun c z=>req c z) kn ke kr x y:=by kernel_rfl
theorem cB:Nonempty (Told E0 D tab Tryz.f24.ntmps (aD (codeOf Tryz.f24) 0) 23 sh0 bx0 aW aM aN (bf [1] (rounds (fun rq kn ke kr x y=>g0 rq kn ke kr x y) () ()) fu0)):=
 dh (sh:=sh0) (bx:=bx0) (ord:=aW) (shR:=aM) (bxR:=aN) bC 8 (by kernel_rfl) (by kernel_rfl) (by kernel_rfl) [1] fu0 () () (fun rq kn ke kr x y=>g0 rq kn ke kr x y) (fun rq kn ke kr x y=>g0 rq kn ke kr x y) (bG) (by
  intro φ kn1 kn2 ke1 ke2 kr1 kr2 h1 h2 h3 x y
  simp only [g0]
  with_reducible repeat (first|(apply J.lt; intro _)|apply J.rq|apply J.bif|exact h1 _ _|exact h2 _ (by decide) _ _|exact h3 (by decide) _ _))
theorem cK:fQ E0 D tab Tryz.f24.ntmps (codeOf Tryz.f24):=bY (bs:= [aD (codeOf Tryz.f24) 0]) (by kernel_rfl) (aK (cZ (by kernel_rfl) (cB)) bn)
theorem ok:dD Tryz.f24=true:=by kernel_rfl
abbrev aS:List AS:= [.one (.val (.int .i64))]
abbrev bS:List Ty:= []
noncomputable def F (x:ASs aS) (y:Bs bS):Brn Res:=brn (r x.1)
theorem good (x:ASs aS) (y:Bs bS) (h:(F x y).res.1=true):Good Tryz.prog 24 (ASs.mk aS x) (Bs.mk bS y) (F x y).res.2:=
 aF hE0 (aA _) Tryz.func24 ok cK aj (run x.1) (rel x.1) h
noncomputable def ent:Ent Tryz.prog:=⟨24,shF aS bS F,aB good⟩
end bB
namespace bA
abbrev X:Type:=(List Int)
noncomputable def res (x:(List Int)):Res:=⟨[.val ⟨.arr 4 (.int .u64),x⟩],[],[]⟩
noncomputable def brn (w:Bool×X):Brn Res:= .one w.1 (res w.2)
theorem aj (w:Bool×X):(brn w).res=(w.1,res w.2):=rfl
noncomputable def g {Z:Type} (rq:Bool→Z→Z) (rt:X→Z) (n:Int):Z:=
lt (bB.r n) fun w1199=>
rq w1199.1<|
rt w1199.2
noncomputable def r (n:Int):Bool×X:=g chk (fun x=>(true,x)) n
noncomputable def D:aP:=Dof (P:=Tryz.prog) [bB.ent]
noncomputable def tab:List (Nat×LE Res):= []
set_option maxRecDepth 100000 in
theorem run (n:Int):aQ E0 [true] D (aJ E0 D tab 9) Tryz.f16 (codeOf Tryz.f16) [.val ⟨.int .i64,n⟩] []=g (fun c z=>req c z) (fun x=>some (res x)) n:=by kernel_rfl
theorem rel (n:Int):J (fun w z=>z=some (res w)) (g chk (fun x=>(true,x)) n) (g (fun c z=>req c z) (fun x=>some (res x)) n):=by
 unfold g
 with_reducible repeat (first|(apply J.lt; intro _)|apply J.rq|apply J.bif|exact J.rt rfl)
theorem ok:dD Tryz.f16=true:=by kernel_rfl
abbrev aS:List AS:= [.one (.val (.int .i64))]
abbrev bS:List Ty:= []
noncomputable def F (x:ASs aS) (y:Bs bS):Brn Res:=brn (r x.1)
theorem good (x:ASs aS) (y:Bs bS) (h:(F x y).res.1=true):Good Tryz.prog 16 (ASs.mk aS x) (Bs.mk bS y) (F x y).res.2:=
 aF hE0 (aA _) Tryz.func16 ok aO aj (run x.1) (rel x.1) h
noncomputable def ent:Ent Tryz.prog:=⟨16,shF aS bS F,aB good⟩
noncomputable def ro:Int→Bool×X:=Classical.choose (⟨r,rfl⟩:∃ q:Int→Bool×X,q=r)
theorem fT:ro=r:=Classical.choose_spec (⟨r,rfl⟩:∃ q:Int→Bool×X,q=r)
noncomputable def FO (x:ASs aS) (y:Bs bS):Brn Res:=brn (ro x.1)
theorem kY:FO=F:=by unfold FO F; rw [fT]
noncomputable def oF:Ent Tryz.prog:=⟨16,shF aS bS FO,aB (by rw [kY]; exact good)⟩
end bA
namespace bU
abbrev X:Type:=(Option aG)
noncomputable def res (x:(Option aG)):Res:=⟨[.val ⟨.ref bW,x⟩],[],[]⟩
noncomputable def brn (w:Bool×X):Brn Res:= .one w.1 (res w.2)
theorem aj (w:Bool×X):(brn w).res=(w.1,res w.2):=rfl
noncomputable def g {Z:Type} (rq:Bool→Z→Z) (rt:X→Z) (gx:(Option ai)):Z:=
bif gx.isNone then
rt none
else
lt (gx.getD ((none,(none,())),([0,0,0,0],()))) fun (v1202:ai)=>
rq gx.isSome<|
rt v1202.1.2.1
noncomputable def r (gx:(Option ai)):Bool×X:=g chk (fun x=>(true,x)) gx
noncomputable def D:aP:=Dof (P:=Tryz.prog) []
noncomputable def tab:List (Nat×LE Res):= []
set_option maxRecDepth 100000 in
theorem run (gx:(Option ai)):aQ E0 [true] D (aJ E0 D tab 9) Tryz.f21 (codeOf Tryz.f21) [.val ⟨.ref au,gx⟩] []=g (fun c z=>req c z) (fun x=>some (res x)) gx:=by kernel_rfl
theorem rel (gx:(Option ai)):J (fun w z=>z=some (res w)) (g chk (fun x=>(true,x)) gx) (g (fun c z=>req c z) (fun x=>some (res x)) gx):=by
 unfold g
 with_reducible repeat (first|(apply J.lt; intro _)|apply J.rq|apply J.bif|exact J.rt rfl)
theorem ok:dD Tryz.f21=true:=by kernel_rfl
abbrev aS:List AS:= [.one (.val (.ref au))]
abbrev bS:List Ty:= []
noncomputable def F (x:ASs aS) (y:Bs bS):Brn Res:=brn (r x.1)
theorem good (x:ASs aS) (y:Bs bS) (h:(F x y).res.1=true):Good Tryz.prog 21 (ASs.mk aS x) (Bs.mk bS y) (F x y).res.2:=
 aF hE0 (aA _) Tryz.func21 ok aO aj (run x.1) (rel x.1) h
noncomputable def ent:Ent Tryz.prog:=⟨21,shF aS bS F,aB good⟩
end bU
namespace jZ
abbrev X:Type:=(List Int)
noncomputable def res (x:(List Int)):Res:=⟨[.val ⟨.arr 4 (.int .u64),x⟩],[],[]⟩
noncomputable def brn (w:Bool×X):Brn Res:= .one w.1 (res w.2)
theorem aj (w:Bool×X):(brn w).res=(w.1,res w.2):=rfl
noncomputable def g {Z:Type} (rq:Bool→Z→Z) (rt:X→Z) (rx:(Option aG)) (a:(List Int)) (b:(List Int)):Z:=
lt (dW.r rx) fun w1212=>
rq w1212.1<|
lt (!w1212.2) fun (v1213:Bool)=>
bif v1213 then
rt [0,0,0,0]
else
lt (iC.r rx a) fun w1214=>
rq w1214.1<|
lt (iN.r rx b) fun w1215=>
rq w1215.1<|
lt (bJ.r rx w1214.2 w1215.2) fun w1216=>
rq w1216.1<|
rt w1216.2
noncomputable def r (rx:(Option aG)) (a:(List Int)) (b:(List Int)):Bool×X:=g chk (fun x=>(true,x)) rx a b
noncomputable def D:aP:=Dof (P:=Tryz.prog) [dW.ent,iC.ent,iN.ent,bJ.ent]
noncomputable def tab:List (Nat×LE Res):= []
set_option maxRecDepth 100000 in
theorem run (rx:(Option aG)) (a:(List Int)) (b:(List Int)):aQ E0 [true] D (aJ E0 D tab 9) Tryz.f67 (codeOf Tryz.f67) [.val ⟨.ref bW,rx⟩,.val ⟨.arr 4 (.int .u64),a⟩,.val ⟨.arr 4 (.int .u64),b⟩] []=g (fun c z=>req c z) (fun x=>some (res x)) rx a b:=by kernel_rfl
theorem rel (rx:(Option aG)) (a:(List Int)) (b:(List Int)):J (fun w z=>z=some (res w)) (g chk (fun x=>(true,x)) rx a b) (g (fun c z=>req c z) (fun x=>some (res x)) rx a b):=by
 unfold g
 with_reducible repeat (first|(apply J.lt; intro _)|apply J.rq|apply J.bif|exact J.rt rfl)
theorem ok:dD Tryz.f67=true:=by kernel_rfl
abbrev aS:List AS:= [.one (.val (.ref bW)),.one (.val (.arr 4 (.int .u64))),.one (.val (.arr 4 (.int .u64)))]
abbrev bS:List Ty:= []
noncomputable def F (x:ASs aS) (y:Bs bS):Brn Res:=brn (r x.1 x.2.1 x.2.2.1)
theorem good (x:ASs aS) (y:Bs bS) (h:(F x y).res.1=true):Good Tryz.prog 67 (ASs.mk aS x) (Bs.mk bS y) (F x y).res.2:=
 aF hE0 (aA _) Tryz.func67 ok aO aj (run x.1 x.2.1 x.2.2.1) (rel x.1 x.2.1 x.2.2.1) h
noncomputable def ent:Ent Tryz.prog:=⟨67,shF aS bS F,aB good⟩
end jZ
namespace iH
abbrev X:Type:=(List Int)
noncomputable def res (x:(List Int)):Res:=⟨[.val ⟨.arr 4 (.int .u64),x⟩],[],[]⟩
noncomputable def brn (w:Bool×X):Brn Res:= .one w.1 (res w.2)
theorem aj (w:Bool×X):(brn w).res=(w.1,res w.2):=rfl
noncomputable def g {Z:Type} (rq:Bool→Z→Z) (rt:X→Z) (gx:(Option ai)) (a:(List Int)) (b:(List Int)):Z:=
lt (bU.r gx) fun w1211=>
rq w1211.1<|
lt (jZ.r w1211.2 a b) fun w1217=>
rq w1217.1<|
rt w1217.2
noncomputable def r (gx:(Option ai)) (a:(List Int)) (b:(List Int)):Bool×X:=g chk (fun x=>(true,x)) gx a b
noncomputable def D:aP:=Dof (P:=Tryz.prog) [bU.ent,jZ.ent]
noncomputable def tab:List (Nat×LE Res):= []
set_option maxRecDepth 100000 in
theorem run (gx:(Option ai)) (a:(List Int)) (b:(List Int)):aQ E0 [true] D (aJ E0 D tab 9) Tryz.f39 (codeOf Tryz.f39) [.val ⟨.ref au,gx⟩,.val ⟨.arr 4 (.int .u64),a⟩,.val ⟨.arr 4 (.int .u64),b⟩] []=g (fun c z=>req c z) (fun x=>some (res x)) gx a b:=by kernel_rfl
theorem rel (gx:(Option ai)) (a:(List Int)) (b:(List Int)):J (fun w z=>z=some (res w)) (g chk (fun x=>(true,x)) gx a b) (g (fun c z=>req c z) (fun x=>some (res x)) gx a b):=by
 unfold g
 with_reducible repeat (first|(apply J.lt; intro _)|apply J.rq|apply J.bif|exact J.rt rfl)
theorem ok:dD Tryz.f39=true:=by kernel_rfl
abbrev aS:List AS:= [.one (.val (.ref au)),.one (.val (.arr 4 (.int .u64))),.one (.val (.arr 4 (.int .u64)))]
abbrev bS:List Ty:= []
noncomputable def F (x:ASs aS) (y:Bs bS):Brn Res:=brn (r x.1 x.2.1 x.2.2.1)
theorem good (x:ASs aS) (y:Bs bS) (h:(F x y).res.1=true):Good Tryz.prog 39 (ASs.mk aS x) (Bs.mk bS y) (F x y).res.2:=
 aF hE0 (aA _) Tryz.func39 ok aO aj (run x.1 x.2.1 x.2.2.1) (rel x.1 x.2.1 x.2.2.1) h
noncomputable def ent:Ent Tryz.prog:=⟨39,shF aS bS F,aB good⟩
end iH
namespace lY
abbrev X:Type:=(List Int)
noncomputable def res (x:(List Int)):Res:=⟨[.val ⟨.arr 4 (.int .u64),x⟩],[],[]⟩
noncomputable def brn (w:Bool×X):Brn Res:= .one w.1 (res w.2)
theorem aj (w:Bool×X):(brn w).res=(w.1,res w.2):=rfl
noncomputable def g {Z:Type} (rq:Bool→Z→Z) (rt:X→Z) (rx:(Option aG)):Z:=
lt (dW.r rx) fun w1219=>
rq w1219.1<|
lt (!w1219.2) fun (v1220:Bool)=>
bif v1220 then
rt [0,0,0,0]
else
lt (rx.getD eu) fun (v1221:aG)=>
rq rx.isSome<|
rt v1221.1
noncomputable def r (rx:(Option aG)):Bool×X:=g chk (fun x=>(true,x)) rx
noncomputable def D:aP:=Dof (P:=Tryz.prog) [dW.ent]
noncomputable def tab:List (Nat×LE Res):= []
set_option maxRecDepth 100000 in
theorem run (rx:(Option aG)):aQ E0 [true] D (aJ E0 D tab 9) Tryz.f93 (codeOf Tryz.f93) [.val ⟨.ref bW,rx⟩] []=g (fun c z=>req c z) (fun x=>some (res x)) rx:=by kernel_rfl
theorem rel (rx:(Option aG)):J (fun w z=>z=some (res w)) (g chk (fun x=>(true,x)) rx) (g (fun c z=>req c z) (fun x=>some (res x)) rx):=by
 unfold g
 with_reducible repeat (first|(apply J.lt; intro _)|apply J.rq|apply J.bif|exact J.rt rfl)
theorem ok:dD Tryz.f93=true:=by kernel_rfl
abbrev aS:List AS:= [.one (.val (.ref bW))]
abbrev bS:List Ty:= []
noncomputable def F (x:ASs aS) (y:Bs bS):Brn Res:=brn (r x.1)
theorem good (x:ASs aS) (y:Bs bS) (h:(F x y).res.1=true):Good Tryz.prog 93 (ASs.mk aS x) (Bs.mk bS y) (F x y).res.2:=
 aF hE0 (aA _) Tryz.func93 ok aO aj (run x.1) (rel x.1) h
noncomputable def ent:Ent Tryz.prog:=⟨93,shF aS bS F,aB good⟩
end lY
namespace gI
abbrev X:Type:=(List Int)
noncomputable def res (x:(List Int)):Res:=⟨[.val ⟨.arr 4 (.int .u64),x⟩],[],[]⟩
noncomputable def brn (w:Bool×X):Brn Res:= .one w.1 (res w.2)
theorem aj (w:Bool×X):(brn w).res=(w.1,res w.2):=rfl
noncomputable def g {Z:Type} (rq:Bool→Z→Z) (rt:X→Z) (gx:(Option ai)):Z:=
lt (bU.r gx) fun w1218=>
rq w1218.1<|
lt (lY.r w1218.2) fun w1222=>
rq w1222.1<|
rt w1222.2
noncomputable def r (gx:(Option ai)):Bool×X:=g chk (fun x=>(true,x)) gx
noncomputable def D:aP:=Dof (P:=Tryz.prog) [bU.ent,lY.ent]
noncomputable def tab:List (Nat×LE Res):= []
set_option maxRecDepth 100000 in
theorem run (gx:(Option ai)):aQ E0 [true] D (aJ E0 D tab 9) Tryz.f66 (codeOf Tryz.f66) [.val ⟨.ref au,gx⟩] []=g (fun c z=>req c z) (fun x=>some (res x)) gx:=by kernel_rfl
theorem rel (gx:(Option ai)):J (fun w z=>z=some (res w)) (g chk (fun x=>(true,x)) gx) (g (fun c z=>req c z) (fun x=>some (res x)) gx):=by
 unfold g
 with_reducible repeat (first|(apply J.lt; intro _)|apply J.rq|apply J.bif|exact J.rt rfl)
theorem ok:dD Tryz.f66=true:=by kernel_rfl
abbrev aS:List AS:= [.one (.val (.ref au))]
abbrev bS:List Ty:= []
noncomputable def F (x:ASs aS) (y:Bs bS):Brn Res:=brn (r x.1)
theorem good (x:ASs aS) (y:Bs bS) (h:(F x y).res.1=true):Good Tryz.prog 66 (ASs.mk aS x) (Bs.mk bS y) (F x y).res.2:=
 aF hE0 (aA _) Tryz.func66 ok aO aj (run x.1) (rel x.1) h
noncomputable def ent:Ent Tryz.prog:=⟨66,shF aS bS F,aB good⟩
end gI
namespace lU
abbrev X:Type:=(List Int)×Int
noncomputable def res (x:(List Int)×Int):Res:=⟨[.val ⟨.arr 4 (.int .u64),x.1⟩,.val ⟨.int .i64,x.2⟩],[],[]⟩
noncomputable def brn (w:Bool×X):Brn Res:= .one w.1 (res w.2)
theorem aj (w:Bool×X):(brn w).res=(w.1,res w.2):=rfl
noncomputable def g {Z:Type} (rq:Bool→Z→Z) (rt:X→Z) (a:(List Int)) (b:(List Int)) (m:(List Int)):Z:=
lt (qF.r a b) fun w1224=>
rq w1224.1<|
lt (eO.r w1224.2.2) fun w1225=>
rq w1225.1<|
lt (gK.r w1224.2.1 w1225.2 m) fun w1226=>
rq w1226.1<|
rt (w1226.2.1,w1226.2.2)
noncomputable def r (a:(List Int)) (b:(List Int)) (m:(List Int)):Bool×X:=g chk (fun x=>(true,x)) a b m
noncomputable def D:aP:=Dof (P:=Tryz.prog) [qF.ent,eO.ent,gK.ent]
noncomputable def tab:List (Nat×LE Res):= []
set_option maxRecDepth 100000 in
theorem run (a:(List Int)) (b:(List Int)) (m:(List Int)):aQ E0 [true,true] D (aJ E0 D tab 9) Tryz.f65 (codeOf Tryz.f65) [.val ⟨.arr 4 (.int .u64),a⟩,.val ⟨.arr 4 (.int .u64),b⟩,.val ⟨.arr 4 (.int .u64),m⟩] []=g (fun c z=>req c z) (fun x=>some (res x)) a b m:=by kernel_rfl
theorem rel (a:(List Int)) (b:(List Int)) (m:(List Int)):J (fun w z=>z=some (res w)) (g chk (fun x=>(true,x)) a b m) (g (fun c z=>req c z) (fun x=>some (res x)) a b m):=by
 unfold g
 with_reducible repeat (first|(apply J.lt; intro _)|apply J.rq|apply J.bif|exact J.rt rfl)
theorem ok:dD Tryz.f65=true:=by kernel_rfl
abbrev aS:List AS:= [.one (.val (.arr 4 (.int .u64))),.one (.val (.arr 4 (.int .u64))),.one (.val (.arr 4 (.int .u64)))]
abbrev bS:List Ty:= []
noncomputable def F (x:ASs aS) (y:Bs bS):Brn Res:=brn (r x.1 x.2.1 x.2.2.1)
theorem good (x:ASs aS) (y:Bs bS) (h:(F x y).res.1=true):Good Tryz.prog 65 (ASs.mk aS x) (Bs.mk bS y) (F x y).res.2:=
 aF hE0 (aA _) Tryz.func65 ok aO aj (run x.1 x.2.1 x.2.2.1) (rel x.1 x.2.1 x.2.2.1) h
noncomputable def ent:Ent Tryz.prog:=⟨65,shF aS bS F,aB good⟩
end lU
namespace iI
abbrev X:Type:=(List Int)
noncomputable def res (x:(List Int)):Res:=⟨[.val ⟨.arr 4 (.int .u64),x⟩],[],[]⟩
noncomputable def brn (w:Bool×X):Brn Res:= .one w.1 (res w.2)
theorem aj (w:Bool×X):(brn w).res=(w.1,res w.2):=rfl
noncomputable def g {Z:Type} (rq:Bool→Z→Z) (rt:X→Z) (gx:(Option ai)) (a:(List Int)) (b:(List Int)):Z:=
lt (gI.r gx) fun w1223=>
rq w1223.1<|
lt (lU.r a b w1223.2) fun w1227=>
rq w1227.1<|
rt w1227.2.1
noncomputable def r (gx:(Option ai)) (a:(List Int)) (b:(List Int)):Bool×X:=g chk (fun x=>(true,x)) gx a b
noncomputable def D:aP:=Dof (P:=Tryz.prog) [gI.ent,lU.ent]
noncomputable def tab:List (Nat×LE Res):= []
set_option maxRecDepth 100000 in
theorem run (gx:(Option ai)) (a:(List Int)) (b:(List Int)):aQ E0 [true] D (aJ E0 D tab 9) Tryz.f38 (codeOf Tryz.f38) [.val ⟨.ref au,gx⟩,.val ⟨.arr 4 (.int .u64),a⟩,.val ⟨.arr 4 (.int .u64),b⟩] []=g (fun c z=>req c z) (fun x=>some (res x)) gx a b:=by kernel_rfl
theorem rel (gx:(Option ai)) (a:(List Int)) (b:(List Int)):J (fun w z=>z=some (res w)) (g chk (fun x=>(true,x)) gx a b) (g (fun c z=>req c z) (fun x=>some (res x)) gx a b):=by
 unfold g
 with_reducible repeat (first|(apply J.lt; intro _)|apply J.rq|apply J.bif|exact J.rt rfl)
theorem ok:dD Tryz.f38=true:=by kernel_rfl
abbrev aS:List AS:= [.one (.val (.ref au)),.one (.val (.arr 4 (.int .u64))),.one (.val (.arr 4 (.int .u64)))]
abbrev bS:List Ty:= []
noncomputable def F (x:ASs aS) (y:Bs bS):Brn Res:=brn (r x.1 x.2.1 x.2.2.1)
theorem good (x:ASs aS) (y:Bs bS) (h:(F x y).res.1=true):Good Tryz.prog 38 (ASs.mk aS x) (Bs.mk bS y) (F x y).res.2:=
 aF hE0 (aA _) Tryz.func38 ok aO aj (run x.1 x.2.1 x.2.2.1) (rel x.1 x.2.1 x.2.2.1) h
noncomputable def ent:Ent Tryz.prog:=⟨38,shF aS bS F,aB good⟩
end iI
end Go.Own
