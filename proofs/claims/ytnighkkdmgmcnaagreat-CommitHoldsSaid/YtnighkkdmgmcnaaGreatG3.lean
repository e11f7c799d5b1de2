/- What functions compute, printed by wip/gen/gen2.py. -/
import Derived.Test.YtnighkkdmgmcnaaGreatG2
set_option linter.unusedVariables false
set_option linter.unusedSimpArgs false
set_option maxRecDepth 100000
noncomputable section
namespace Go.Own
open Go.Proofs Go.Proofs.YtnighkkdmgmcnaaGreat
namespace fV
abbrev X:Type:=Int
def res (x:Int):Res:=⟨[.val ⟨.int .i64,x⟩],[],[]⟩
abbrev sh0:List (Nat×Sh):= [(0,.p (.sl lu)),(2,.p (.int .i64)),(5,.p (.int .i64))]
abbrev bx0:List (Nat×Ty):= []
abbrev aY:List (Nat×Ty):= []
abbrev aX:List (Nat×Sh):= [(2,.p (.int .i64))]
abbrev aZ:List (Nat×Ty):= []
abbrev bX:List (Nat×Ty):= []
abbrev X0:Type:=(List iQ)×Int×Int×Unit
abbrev Y0:Type:=Unit
abbrev U0:Type:=Int×Unit
abbrev V0:Type:=Unit
def g0 {Z:Type} (rq:Bool→Z→Z) (kn:X0→Y0→Z) (ke:Nat→X0→Y0→Z) (kr:U0→V0→Z) (x:X0) (y:Y0):Z:=
lt (x.1.length:Int) fun (v41:Int)=>
lt (ilt x.2.2.1 v41) fun v42=>
bif v42 then
lt (x.1.getD x.2.2.1.toNat ([0,0,0,0],(0,()))) fun (v43:iQ)=>
rq (ile (0:Int) x.2.2.1&&ilt x.2.2.1 (x.1.length:Int))<|
lt (IntKind.i64.wrap (x.2.2.1 - 1)) fun v44=>
lt (x.1.getD v44.toNat ([0,0,0,0],(0,()))) fun (v45:iQ)=>
rq (ile (0:Int) v44&&ilt v44 (x.1.length:Int))<|
lt (x.1.getD x.2.2.1.toNat ([0,0,0,0],(0,()))) fun (v46:iQ)=>
rq (ile (0:Int) x.2.2.1&&ilt x.2.2.1 (x.1.length:Int))<|
lt (nV.r v43.1 v45.1 v46.2.1) fun w1031=>
rq w1031.1<|
lt (!w1031.2) fun (v1032:Bool)=>
bif v1032 then
kr (4,()) ()
else
lt (IntKind.i64.wrap (x.2.2.1+1)) fun v1033=>
kn (x.1,x.2.1,v1033,()) ()
else
ke 0 (x.1,x.2.1,x.2.2.1,()) ()
def fu0 (x:X0) (y:Y0):Nat:=((x.1.length:Int) - x.2.2.1).toNat+1
def l0 (x:X0) (y:Y0):Bool×Nat×X0×Y0×U0×V0:=rounds (fun rq kn ke kr x y=>g0 rq kn ke kr x y) (0,()) () (fu0 x y) x y
def g {Z:Type} (rq:Bool→Z→Z) (rt:X→Z) (l:(List iQ)):Z:=
lt (l.length:Int) fun (v10:Int)=>
lt (ilt v10 1) fun v11=>
bif v11 then
rt 4
else
lt (l.length:Int) fun (v12:Int)=>
lt (ilt 8 v12) fun v13=>
bif v13 then
rt 4
else
lt (l.getD 0 ([0,0,0,0],(0,()))) fun (v14:iQ)=>
rq (ilt (0:Int) (l.length:Int))<|
lt (qO.r v14.1) fun w21=>
rq w21.1<|
lt (!w21.2.2) fun (v22:Bool)=>
bif v22 then
rt 4
else
lt (oH.r w21.2.1) fun w35=>
rq w35.1<|
lt (!w35.2) fun (v36:Bool)=>
bif v36 then
rt 4
else
lt (l.getD 0 ([0,0,0,0],(0,()))) fun (v37:iQ)=>
rq (ilt (0:Int) (l.length:Int))<|
lt (v37.2.1 != 0) fun (v38:Bool)=>
bif v38 then
rt 4
else
lt (fV.l0 (l,0,1,()) ()) fun w1034=>
rq w1034.1<|
bif Nat.beq w1034.2.1 0 then
rt w1034.2.2.2.2.1.1
else
rt 0
def r (l:(List iQ)):Bool×X:=g chk (fun x=>(true,x)) l
def D:aH:=Dof (P:=Tryz.prog) [qO.ent,oH.ent,nV.ent]
abbrev lf0:=dw (R:=Res) [0,1] (rounds (fun rq kn ke kr x y=>g0 rq kn ke kr x y) (0,()) ()) fu0
def tab:List (Nat×LE Res):= [(8,.typed (eY 60 sh0 bx0 aY aX aZ (lf0)))]
theorem bV:Nonempty (Told E0 D tab Tryz.f55.ntmps (aG (codeOf Tryz.f55) 0) 60 sh0 bx0 aY aX aZ lf0):=fH (sh:=sh0) (bx:=bx0) (ord:=aY) (shR:=aX) (bxR:=aZ) bX (by kernel_rfl) (by kernel_rfl) (by kernel_rfl) [0,1] _ _ _ @g0 (fun _ _ _ _ _=>by kernel_rfl) (by
  intro _ _ _ _ _ _ _ h i k x y
  simp only [g0]
  with_reducible repeat (first|(apply J.lt; intro _)|apply J.rq|apply J.bif|exact h _ _|exact i _ (by decide) _ _|exact k (by decide) _ _))
theorem bW:fQ E0 D tab Tryz.f55.ntmps (codeOf Tryz.f55):=bT (bs:= [aG (codeOf Tryz.f55) 0]) (by kernel_rfl) (aF (bP (by kernel_rfl) (bV)) aO)
abbrev aS:List AS:= [.one (.val (.sl lu))]
abbrev bS:List Ty:= []
def ent:Ent Tryz.prog:=bH (D:=D) (tab:=tab) hE0 (ay _) [true] Tryz.func55 (by kernel_rfl) bW aS bS res (fun x y=>r x.1) (fun x y=>g (fun c z=>req c z) (fun x=>some (res x)) x.1) (fun _ _=>by kernel_rfl) (by
 intro x y
 show J _ (g chk (fun x=>(true,x)) x.1) (g (fun c z=>req c z) (fun x=>some (res x)) x.1)
 unfold g
 with_reducible repeat (first|(apply J.lt; intro _)|apply J.rq|apply J.bif|exact J.rt rfl))
end fV
namespace iK
abbrev X:Type:=Bool
def res (x:Bool):Res:=⟨[.val ⟨.bool,x⟩],[],[]⟩
def g {Z:Type} (rq:Bool→Z→Z) (rt:X→Z) (rx:(Option aJ)) (a:(List Int)):Z:=
lt (dS.r rx) fun w1050=>
rq w1050.1<|
bif w1050.2 then
lt (rx.getD dV) fun (v1051:aJ)=>
rq rx.isSome<|
lt (jJ.r a v1051.1) fun w1052=>
rq w1052.1<|
lt (ilt w1052.2 0) fun v1053=>
rt v1053
else
rt false
def r (rx:(Option aJ)) (a:(List Int)):Bool×X:=g chk (fun x=>(true,x)) rx a
def D:aH:=Dof (P:=Tryz.prog) [dS.ent,jJ.ent]
def tab:List (Nat×LE Res):= []
abbrev aS:List AS:= [.one (.val (.ref eF)),.one (.val (.arr 4 (.int .u64)))]
abbrev bS:List Ty:= []
def ent:Ent Tryz.prog:=bH (D:=D) (tab:=tab) hE0 (ay _) [true] Tryz.func58 (by kernel_rfl) aC aS bS res (fun x y=>r x.1 x.2.1) (fun x y=>g (fun c z=>req c z) (fun x=>some (res x)) x.1 x.2.1) (fun _ _=>by kernel_rfl) (by
 intro x y
 show J _ (g chk (fun x=>(true,x)) x.1 x.2.1) (g (fun c z=>req c z) (fun x=>some (res x)) x.1 x.2.1)
 unfold g
 with_reducible repeat (first|(apply J.lt; intro _)|apply J.rq|apply J.bif|exact J.rt rfl))
end iK
namespace kG
abbrev X:Type:=Nat×((Option af)×Int)×(Int×af)
def rH (x:(Option af)×Int):Res:=⟨[.val ⟨.ref ak,x.1⟩,.val ⟨.int .i64,x.2⟩],[],[]⟩
def rG (x:Int×af):Res:=⟨[.pb 1000000 ak [],.val ⟨.int .i64,x.1⟩],[],[⟨ak,x.2⟩]⟩
def res (x:X):Res:=bif Nat.beq x.1 0 then rH x.2.1 else (rG x.2.2)
def brn (w:Bool×X):Brn Res:= .ite (Nat.beq w.2.1 0) (.one w.1 (rH w.2.2.1)) (.one w.1 (rG w.2.2.2))
theorem cB (w:Bool×X):(brn w).res=(w.1,res w.2):=by
 cases h0:Nat.beq w.2.1 0 with
 |true=>simp only [brn,res,Brn.res,h0,cond_true,cond_false]
 |false=>
  simp only [brn,res,Brn.res,h0,cond_true,cond_false]
def g {Z:Type} (rq:Bool→Z→Z) (rt:X→Z) (p:iX):Z:=
lt (p.1.length:Int) fun (v8:Int)=>
lt (ilt v8 2) fun v9=>
bif v9 then
rt (0,(none,4),(0,((none,(none,())),([0,0,0,0],()))))
else
lt (fV.r p.1) fun w1035=>
rq w1035.1<|
lt (w1035.2 != 0) fun (v1036:Bool)=>
bif v1036 then
rt (0,(none,4),(0,((none,(none,())),([0,0,0,0],()))))
else
lt (IntKind.i64.wrap (v8 - 1)) fun v1037=>
lt (p.1.getD v1037.toNat ([0,0,0,0],(0,()))) fun (v1038:iQ)=>
rq (ile (0:Int) v1037&&ilt v1037 (p.1.length:Int))<|
lt (ny.r v1038.1) fun w1039=>
rq w1039.1<|
lt (w1039.2.2 != 0) fun (v1040:Bool)=>
bif v1040 then
rt (0,(none,4),(0,((none,(none,())),([0,0,0,0],()))))
else
lt (IntKind.i64.wrap (v8 - 2)) fun v1041=>
lt (p.1.getD v1041.toNat ([0,0,0,0],(0,()))) fun (v1042:iQ)=>
rq (ile (0:Int) v1041&&ilt v1041 (p.1.length:Int))<|
lt (ny.r v1042.1) fun w1043=>
rq w1043.1<|
lt (w1043.2.2 != 0) fun (v1044:Bool)=>
bif v1044 then
rt (0,(none,4),(0,((none,(none,())),([0,0,0,0],()))))
else
lt (qN.r v1042.1) fun w1045=>
rq w1045.1<|
lt (ilt w1045.2 10) fun v1046=>
bif v1046 then
rt (0,(none,4),(0,((none,(none,())),([0,0,0,0],()))))
else
lt (ieq (p.2.1.getD 0 0) 0&&(ieq (p.2.1.getD 1 0) 0&&(ieq (p.2.1.getD 2 0) 0&&(ieq (p.2.1.getD 3 0) 0&&true)))) fun v1047=>
bif v1047 then
rt (0,(none,4),(0,((none,(none,())),([0,0,0,0],()))))
else
lt (dM.r 1) fun w1048=>
rq w1048.1<|
lt (ieq (p.2.1.getD 0 0) (w1048.2.getD 0 0)&&(ieq (p.2.1.getD 1 0) (w1048.2.getD 1 0)&&(ieq (p.2.1.getD 2 0) (w1048.2.getD 2 0)&&(ieq (p.2.1.getD 3 0) (w1048.2.getD 3 0)&&true)))) fun v1049=>
bif v1049 then
rt (0,(none,4),(0,((none,(none,())),([0,0,0,0],()))))
else
lt (iK.r w1039.2.1 p.2.1) fun w1054=>
rq w1054.1<|
lt (!w1054.2) fun (v1055:Bool)=>
bif v1055 then
rt (0,(none,4),(0,((none,(none,())),([0,0,0,0],()))))
else
lt (eH.r w1039.2.1 p.2.1 v1042.1) fun w1056=>
rq w1056.1<|
lt (dM.r 1) fun w1057=>
rq w1057.1<|
lt (!(ieq (w1056.2.getD 0 0) (w1057.2.getD 0 0)&&(ieq (w1056.2.getD 1 0) (w1057.2.getD 1 0)&&(ieq (w1056.2.getD 2 0) (w1057.2.getD 2 0)&&(ieq (w1056.2.getD 3 0) (w1057.2.getD 3 0)&&true))))) fun (v1058:Bool)=>
bif v1058 then
rt (0,(none,4),(0,((none,(none,())),([0,0,0,0],()))))
else
rt (1,(none,0),(0,((w1039.2.1,(w1043.2.1,())),(p.2.1,()))))
def r (p:iX):Bool×X:=g chk (fun x=>(true,x)) p
def D:aH:=Dof (P:=Tryz.prog) [fV.ent,ny.ent,qN.ent,dM.ent,iK.ent,eH.ent]
def tab:List (Nat×LE Res):= []
theorem run (p:iX):gL E0 [false,true] D (iG E0 D tab 9) Tryz.f27 (codeOf Tryz.f27) [.val ⟨kP,p⟩] []=g (fun c z=>req c z) (fun x=>some (res x)) p:=by kernel_rfl
theorem rel (p:iX):J (fun w z=>z=some (res w)) (g chk (fun x=>(true,x)) p) (g (fun c z=>req c z) (fun x=>some (res x)) p):=by
 unfold g
 with_reducible repeat (first|(apply J.lt; intro _)|apply J.rq|apply J.bif|exact J.rt rfl)
theorem ok:nA Tryz.f27=true:=by kernel_rfl
abbrev aS:List AS:= [.one (.val kP)]
abbrev bS:List Ty:= []
def F (x:ASs aS) (y:Bs bS):Brn Res:=brn (r x.1)
theorem good (x:ASs aS) (y:Bs bS) (h:(F x y).res.1=true):Good Tryz.prog 27 (ASs.mk aS x) (Bs.mk bS y) (F x y).res.2:=
 fP hE0 (ay _) Tryz.func27 ok aC cB (run x.1) (rel x.1) h
def ent:Ent Tryz.prog:=⟨27,shF aS bS F,bM good⟩
end kG
namespace kg
abbrev X:Type:=(List Int)
def res (x:(List Int)):Res:=⟨[.val ⟨.arr 4 (.int .u64),x⟩],[],[]⟩
def g {Z:Type} (rq:Bool→Z→Z) (rt:X→Z) (p:iX):Z:=
lt (p.1.length:Int) fun (v1060:Int)=>
lt (ilt v1060 2) fun v1061=>
bif v1061 then
rt [0,0,0,0]
else
lt (p.1.length:Int) fun (v1062:Int)=>
lt (IntKind.i64.wrap (v1062 - 1)) fun v1063=>
lt (p.1.getD v1063.toNat ([0,0,0,0],(0,()))) fun (v1064:iQ)=>
rq (ile (0:Int) v1063&&ilt v1063 (p.1.length:Int))<|
rt v1064.1
def r (p:iX):Bool×X:=g chk (fun x=>(true,x)) p
def D:aH:=Dof (P:=Tryz.prog) []
def tab:List (Nat×LE Res):= []
abbrev aS:List AS:= [.one (.val kP)]
abbrev bS:List Ty:= []
def ent:Ent Tryz.prog:=bH (D:=D) (tab:=tab) hE0 (ay _) [true] Tryz.func62 (by kernel_rfl) aC aS bS res (fun x y=>r x.1) (fun x y=>g (fun c z=>req c z) (fun x=>some (res x)) x.1) (fun _ _=>by kernel_rfl) (by
 intro x y
 show J _ (g chk (fun x=>(true,x)) x.1) (g (fun c z=>req c z) (fun x=>some (res x)) x.1)
 unfold g
 with_reducible repeat (first|(apply J.lt; intro _)|apply J.rq|apply J.bif|exact J.rt rfl))
end kg
namespace cZ
abbrev X:Type:=(List Bool)
def res (x:(List Bool)):Res:=⟨[.val ⟨.arr 256 .bool,x⟩],[],[]⟩
abbrev sh0:List (Nat×Sh):= [(1,.pb 500000 (.arr 4 (.int .u64)) []),(2,.pb 500001 (.arr 256 .bool) []),(3,.pb 500002 (.arr 256 .bool) []),(4,.p (.int .i64))]
abbrev bx0:List (Nat×Ty):= [(500000,.arr 4 (.int .u64)),(500001,.arr 256 .bool),(500002,.arr 256 .bool)]
abbrev aY:List (Nat×Ty):= [(500000,.arr 4 (.int .u64)),(500001,.arr 256 .bool),(500002,.arr 256 .bool)]
abbrev aX:List (Nat×Sh):= []
abbrev aZ:List (Nat×Ty):= []
abbrev bX:List (Nat×Ty):= []
abbrev X0:Type:=Unit×Unit×Unit×Int×Unit
abbrev Y0:Type:=(List Int)×(List Bool)×(List Bool)×Unit
abbrev U0:Type:=Unit
abbrev V0:Type:=Unit
def g0 {Z:Type} (rq:Bool→Z→Z) (kn:X0→Y0→Z) (ke:Nat→X0→Y0→Z) (kr:U0→V0→Z) (x:X0) (y:Y0):Z:=
lt (ilt x.2.2.2.1 256) fun v1114=>
bif v1114 then
lt (IntKind.i64.wrap (x.2.2.2.1.tdiv 64)) fun v1115=>
rq (ile (0:Int) v1115&&ilt v1115 4)<|
lt (y.1.getD v1115.toNat 0) fun (v1116:Int)=>
lt (x.2.2.2.1.tmod 64) fun (v1117:Int)=>
lt (v1116.fdiv (2^(min v1117.toNat 64))) fun (v1118:Int)=>
rq (!ilt v1117 0)<|
lt (eU .u64 (· &&& ·) v1118 (1:Int)) fun v1119=>
lt (v1119== 1) fun (v1120:Bool)=>
rq (ile (0:Int) x.2.2.2.1&&ilt x.2.2.2.1 256)<|
lt (y.2.2.1.set x.2.2.2.1.toNat v1120) fun (v1121:(List Bool))=>
lt (IntKind.i64.wrap (x.2.2.2.1+1)) fun v1122=>
kn ((),(),(),v1122,()) (y.1,y.2.1,v1121,())
else
ke 0 ((),(),(),x.2.2.2.1,()) (y.1,y.2.1,y.2.2.1,())
def fu0 (x:X0) (y:Y0):Nat:=((256:Int) - x.2.2.2.1).toNat+1
def l0 (x:X0) (y:Y0):Bool×Nat×X0×Y0×U0×V0:=rounds (fun rq kn ke kr x y=>g0 rq kn ke kr x y) () () (fu0 x y) x y
def g {Z:Type} (rq:Bool→Z→Z) (rt:X→Z) (a:(List Int)):Z:=
lt (List.replicate 256 false) fun (v1066:(List Bool))=>
lt (List.replicate 256 false) fun (v1067:(List Bool))=>
lt (List.replicate 256 false) fun (v1068:(List Bool))=>
lt (cZ.l0 ((),(),(),0,()) (a,v1066,v1067,())) fun w1123=>
rq w1123.1<|
rt w1123.2.2.2.1.2.2.1
def r (a:(List Int)):Bool×X:=g chk (fun x=>(true,x)) a
def D:aH:=Dof (P:=Tryz.prog) []
abbrev lf0:=dw (R:=Res) [1] (rounds (fun rq kn ke kr x y=>g0 rq kn ke kr x y) () ()) fu0
def tab:List (Nat×LE Res):= [(4,.typed (eY 22 sh0 bx0 aY aX aZ (lf0)))]
theorem bV:Nonempty (Told E0 D tab Tryz.f75.ntmps (aG (codeOf Tryz.f75) 0) 22 sh0 bx0 aY aX aZ lf0):=fH (sh:=sh0) (bx:=bx0) (ord:=aY) (shR:=aX) (bxR:=aZ) bX (by kernel_rfl) (by kernel_rfl) (by kernel_rfl) [1] _ _ _ @g0 (fun _ _ _ _ _=>by kernel_rfl) (by
  intro _ _ _ _ _ _ _ h i k x y
  simp only [g0]
  with_reducible repeat (first|(apply J.lt; intro _)|apply J.rq|apply J.bif|exact h _ _|exact i _ (by decide) _ _|exact k (by decide) _ _))
theorem bW:fQ E0 D tab Tryz.f75.ntmps (codeOf Tryz.f75):=bT (bs:= [aG (codeOf Tryz.f75) 0]) (by kernel_rfl) (aF (bP (by kernel_rfl) (bV)) aO)
abbrev aS:List AS:= [.one (.val (.arr 4 (.int .u64)))]
abbrev bS:List Ty:= []
def ent:Ent Tryz.prog:=bH (D:=D) (tab:=tab) hE0 (ay _) [true] Tryz.func75 (by kernel_rfl) bW aS bS res (fun x y=>r x.1) (fun x y=>g (fun c z=>req c z) (fun x=>some (res x)) x.1) (fun _ _=>by kernel_rfl) (by
 intro x y
 show J _ (g chk (fun x=>(true,x)) x.1) (g (fun c z=>req c z) (fun x=>some (res x)) x.1)
 unfold g
 with_reducible repeat (first|(apply J.lt; intro _)|apply J.rq|apply J.bif|exact J.rt rfl))
end cZ
namespace bD
abbrev X:Type:=Int
def res (x:Int):Res:=⟨[.val ⟨.int .i64,x⟩],[],[]⟩
abbrev sh0:List (Nat×Sh):= [(2,.p (.int .i64)),(3,.pb 500000 (.arr 256 .bool) []),(4,.p (.int .i64))]
abbrev bx0:List (Nat×Ty):= [(500000,.arr 256 .bool)]
abbrev aY:List (Nat×Ty):= [(500000,.arr 256 .bool)]
abbrev aX:List (Nat×Sh):= [(2,.p (.int .i64))]
abbrev aZ:List (Nat×Ty):= []
abbrev bX:List (Nat×Ty):= []
abbrev X0:Type:=Int×Unit×Int×Unit
abbrev Y0:Type:=(List Bool)×Unit
abbrev U0:Type:=Int×Unit
abbrev V0:Type:=Unit
def g0 {Z:Type} (rq:Bool→Z→Z) (kn:X0→Y0→Z) (ke:Nat→X0→Y0→Z) (kr:U0→V0→Z) (x:X0) (y:Y0):Z:=
lt (ile 0 x.2.2.1) fun v1135=>
bif v1135 then
rq (ile (0:Int) x.2.2.1&&ilt x.2.2.1 256)<|
lt (y.1.getD x.2.2.1.toNat false) fun (v1136:Bool)=>
bif v1136 then
lt (IntKind.i64.wrap (x.2.2.1+1)) fun v1137=>
kr (v1137,()) ()
else
lt (IntKind.i64.wrap (x.2.2.1 - 1)) fun v1138=>
kn (x.1,(),v1138,()) (y.1,())
else
ke 0 (x.1,(),x.2.2.1,()) (y.1,())
def fu0 (x:X0) (y:Y0):Nat:=(x.2.2.1 - (0:Int)+1).toNat+1
def l0 (x:X0) (y:Y0):Bool×Nat×X0×Y0×U0×V0:=rounds (fun rq kn ke kr x y=>g0 rq kn ke kr x y) (0,()) () (fu0 x y) x y
def g {Z:Type} (rq:Bool→Z→Z) (rt:X→Z) (a:(List Int)):Z:=
lt (cZ.r a) fun w1124=>
rq w1124.1<|
lt (List.replicate 256 false) fun (v1125:(List Bool))=>
lt (bD.l0 (0,(),255,()) (w1124.2,())) fun w1139=>
rq w1139.1<|
bif Nat.beq w1139.2.1 0 then
rt w1139.2.2.2.2.1.1
else
rt 0
def r (a:(List Int)):Bool×X:=g chk (fun x=>(true,x)) a
def D:aH:=Dof (P:=Tryz.prog) [cZ.ent]
abbrev lf0:=dw (R:=Res) [0,1] (rounds (fun rq kn ke kr x y=>g0 rq kn ke kr x y) (0,()) ()) fu0
def tab:List (Nat×LE Res):= [(4,.typed (eY 16 sh0 bx0 aY aX aZ (lf0)))]
theorem bV:Nonempty (Told E0 D tab Tryz.f74.ntmps (aG (codeOf Tryz.f74) 0) 16 sh0 bx0 aY aX aZ lf0):=fH (sh:=sh0) (bx:=bx0) (ord:=aY) (shR:=aX) (bxR:=aZ) bX (by kernel_rfl) (by kernel_rfl) (by kernel_rfl) [0,1] _ _ _ @g0 (fun _ _ _ _ _=>by kernel_rfl) (by
  intro _ _ _ _ _ _ _ h i k x y
  simp only [g0]
  with_reducible repeat (first|(apply J.lt; intro _)|apply J.rq|apply J.bif|exact h _ _|exact i _ (by decide) _ _|exact k (by decide) _ _))
theorem bW:fQ E0 D tab Tryz.f74.ntmps (codeOf Tryz.f74):=bT (bs:= [aG (codeOf Tryz.f74) 0]) (by kernel_rfl) (aF (bP (by kernel_rfl) (bV)) aO)
abbrev aS:List AS:= [.one (.val (.arr 4 (.int .u64)))]
abbrev bS:List Ty:= []
def ent:Ent Tryz.prog:=bH (D:=D) (tab:=tab) hE0 (ay _) [true] Tryz.func74 (by kernel_rfl) bW aS bS res (fun x y=>r x.1) (fun x y=>g (fun c z=>req c z) (fun x=>some (res x)) x.1) (fun _ _=>by kernel_rfl) (by
 intro x y
 show J _ (g chk (fun x=>(true,x)) x.1) (g (fun c z=>req c z) (fun x=>some (res x)) x.1)
 unfold g
 with_reducible repeat (first|(apply J.lt; intro _)|apply J.rq|apply J.bif|exact J.rt rfl))
end bD
namespace aW
abbrev X:Type:=Int×Bool
def res (x:Int×Bool):Res:=⟨[.val ⟨.int .i64,x.1⟩,.val ⟨.bool,x.2⟩],[],[]⟩
abbrev sh0:List (Nat×Sh):= [(2,.p (.int .i64)),(3,.p .bool),(4,.p (.int .i64)),(5,.pb 500000 (.arr 256 .bool) []),(6,.p (.int .i64))]
abbrev bx0:List (Nat×Ty):= [(500000,.arr 256 .bool)]
abbrev aY:List (Nat×Ty):= [(500000,.arr 256 .bool)]
abbrev aX:List (Nat×Sh):= []
abbrev aZ:List (Nat×Ty):= []
abbrev bX:List (Nat×Ty):= []
abbrev X0:Type:=Int×Bool×Int×Unit×Int×Unit
abbrev Y0:Type:=(List Bool)×Unit
abbrev U0:Type:=Unit
abbrev V0:Type:=Unit
def g0 {Z:Type} (rq:Bool→Z→Z) (kn:X0→Y0→Z) (ke:Nat→X0→Y0→Z) (kr:U0→V0→Z) (x:X0) (y:Y0):Z:=
lt (ilt x.2.2.2.2.1 63) fun v1153=>
bif v1153 then
rq (ile (0:Int) x.2.2.2.2.1&&ilt x.2.2.2.2.1 256)<|
lt (y.1.getD x.2.2.2.2.1.toNat false) fun (v1154:Bool)=>
bif v1154 then
lt (IntKind.i64.wrap ((1:Int)*2^(min x.2.2.2.2.1.toNat 64))) fun v1155=>
rq (!ilt x.2.2.2.2.1 0)<|
lt (eU .i64 (· ||| ·) x.2.2.1 v1155) fun v1156=>
lt (IntKind.i64.wrap (x.2.2.2.2.1+1)) fun v1157=>
kn (x.1,x.2.1,v1156,(),v1157,()) (y.1,())
else
lt (IntKind.i64.wrap (x.2.2.2.2.1+1)) fun v1158=>
kn (x.1,x.2.1,x.2.2.1,(),v1158,()) (y.1,())
else
ke 0 (x.1,x.2.1,x.2.2.1,(),x.2.2.2.2.1,()) (y.1,())
def fu0 (x:X0) (y:Y0):Nat:=((63:Int) - x.2.2.2.2.1).toNat+1
def l0 (x:X0) (y:Y0):Bool×Nat×X0×Y0×U0×V0:=rounds (fun rq kn ke kr x y=>g0 rq kn ke kr x y) () () (fu0 x y) x y
def g {Z:Type} (rq:Bool→Z→Z) (rt:X→Z) (a:(List Int)):Z:=
lt (bD.r a) fun w1140=>
rq w1140.1<|
lt (ilt 63 w1140.2) fun v1141=>
bif v1141 then
rt (0,false)
else
lt (cZ.r a) fun w1142=>
rq w1142.1<|
lt (List.replicate 256 false) fun (v1143:(List Bool))=>
lt (aW.l0 (0,false,0,(),0,()) (w1142.2,())) fun w1159=>
rq w1159.1<|
rt (w1159.2.2.1.2.2.1,true)
def r (a:(List Int)):Bool×X:=g chk (fun x=>(true,x)) a
def D:aH:=Dof (P:=Tryz.prog) [bD.ent,cZ.ent]
abbrev lf0:=dw (R:=Res) [1] (rounds (fun rq kn ke kr x y=>g0 rq kn ke kr x y) () ()) fu0
def tab:List (Nat×LE Res):= [(7,.typed (eY 24 sh0 bx0 aY aX aZ (lf0)))]
theorem bV:Nonempty (Told E0 D tab Tryz.f47.ntmps (aG (codeOf Tryz.f47) 0) 24 sh0 bx0 aY aX aZ lf0):=fH (sh:=sh0) (bx:=bx0) (ord:=aY) (shR:=aX) (bxR:=aZ) bX (by kernel_rfl) (by kernel_rfl) (by kernel_rfl) [1] _ _ _ @g0 (fun _ _ _ _ _=>by kernel_rfl) (by
  intro _ _ _ _ _ _ _ h i k x y
  simp only [g0]
  with_reducible repeat (first|(apply J.lt; intro _)|apply J.rq|apply J.bif|exact h _ _|exact i _ (by decide) _ _|exact k (by decide) _ _))
theorem bW:fQ E0 D tab Tryz.f47.ntmps (codeOf Tryz.f47):=bT (bs:= [aG (codeOf Tryz.f47) 0]) (by kernel_rfl) (aF (bP (by kernel_rfl) (bV)) aO)
abbrev aS:List AS:= [.one (.val (.arr 4 (.int .u64)))]
abbrev bS:List Ty:= []
def ent:Ent Tryz.prog:=bH (D:=D) (tab:=tab) hE0 (ay _) [true,true] Tryz.func47 (by kernel_rfl) bW aS bS res (fun x y=>r x.1) (fun x y=>g (fun c z=>req c z) (fun x=>some (res x)) x.1) (fun _ _=>by kernel_rfl) (by
 intro x y
 show J _ (g chk (fun x=>(true,x)) x.1) (g (fun c z=>req c z) (fun x=>some (res x)) x.1)
 unfold g
 with_reducible repeat (first|(apply J.lt; intro _)|apply J.rq|apply J.bif|exact J.rt rfl))
end aW
namespace j6
abbrev X:Type:=(List Int)
def res (x:(List Int)):Res:=⟨[.val ⟨.arr 4 (.int .u64),x⟩],[],[]⟩
def g {Z:Type} (rq:Bool→Z→Z) (rt:X→Z) (p:iX):Z:=
lt (p.1.length:Int) fun (v1161:Int)=>
lt (ilt v1161 2) fun v1162=>
bif v1162 then
rt [0,0,0,0]
else
lt (p.1.length:Int) fun (v1163:Int)=>
lt (IntKind.i64.wrap (v1163 - 2)) fun v1164=>
lt (p.1.getD v1164.toNat ([0,0,0,0],(0,()))) fun (v1165:iQ)=>
rq (ile (0:Int) v1164&&ilt v1164 (p.1.length:Int))<|
rt v1165.1
def r (p:iX):Bool×X:=g chk (fun x=>(true,x)) p
def D:aH:=Dof (P:=Tryz.prog) []
def tab:List (Nat×LE Res):= []
abbrev aS:List AS:= [.one (.val kP)]
abbrev bS:List Ty:= []
def ent:Ent Tryz.prog:=bH (D:=D) (tab:=tab) hE0 (ay _) [true] Tryz.func63 (by kernel_rfl) aC aS bS res (fun x y=>r x.1) (fun x y=>g (fun c z=>req c z) (fun x=>some (res x)) x.1) (fun _ _=>by kernel_rfl) (by
 intro x y
 show J _ (g chk (fun x=>(true,x)) x.1) (g (fun c z=>req c z) (fun x=>some (res x)) x.1)
 unfold g
 with_reducible repeat (first|(apply J.lt; intro _)|apply J.rq|apply J.bif|exact J.rt rfl))
end j6
namespace fG
abbrev X:Type:=aK
def res (x:aK):Res:=⟨[.val ⟨bB,x⟩],[],[]⟩
def g {Z:Type} (rq:Bool→Z→Z) (rt:X→Z) (p:iX):Z:=
lt (kg.r p) fun w1065=>
rq w1065.1<|
lt (aW.r w1065.2) fun w1160=>
rq w1160.1<|
lt (j6.r p) fun w1166=>
rq w1166.1<|
lt (aW.r w1166.2) fun w1167=>
rq w1167.1<|
lt (aW.r p.2.1) fun w1168=>
rq w1168.1<|
rt (w1160.2.1,(w1167.2.1,(w1168.2.1,())))
def r (p:iX):Bool×X:=g chk (fun x=>(true,x)) p
def D:aH:=Dof (P:=Tryz.prog) [kg.ent,aW.ent,j6.ent]
def tab:List (Nat×LE Res):= []
abbrev aS:List AS:= [.one (.val kP)]
abbrev bS:List Ty:= []
def ent:Ent Tryz.prog:=bH (D:=D) (tab:=tab) hE0 (ay _) [true] Tryz.func34 (by kernel_rfl) aC aS bS res (fun x y=>r x.1) (fun x y=>g (fun c z=>req c z) (fun x=>some (res x)) x.1) (fun _ _=>by kernel_rfl) (by
 intro x y
 show J _ (g chk (fun x=>(true,x)) x.1) (g (fun c z=>req c z) (fun x=>some (res x)) x.1)
 unfold g
 with_reducible repeat (first|(apply J.lt; intro _)|apply J.rq|apply J.bif|exact J.rt rfl))
end fG
namespace cu
abbrev X:Type:=(Option af)×aK×Bool
def res (x:(Option af)×aK×Bool):Res:=⟨[.val ⟨.ref ak,x.1⟩,.val ⟨bB,x.2.1⟩,.val ⟨.bool,x.2.2⟩],[],[]⟩
def brn (w:Bool×X):Brn Res:= .one w.1 (res w.2)
theorem cB (w:Bool×X):(brn w).res=(w.1,res w.2):=rfl
def g {Z:Type} (rq:Bool→Z→Z) (rt:X→Z) (which:Int):Z:=
lt (gD.r which) fun w7=>
rq w7.1<|
lt (kG.r w7.2) fun w1059=>
bif Nat.beq w1059.2.1 0 then
rq w1059.1<|
lt (fG.r w7.2) fun w1169=>
rq w1169.1<|
lt (w1059.2.2.1.2== 0) fun (v1170:Bool)=>
rt (w1059.2.2.1.1,w1169.2,v1170)
else
rq w1059.1<|
lt (fG.r w7.2) fun w1171=>
rq w1171.1<|
lt (w1059.2.2.2.1== 0) fun (v1172:Bool)=>
rt ((some w1059.2.2.2.2),w1171.2,v1172)
def r (which:Int):Bool×X:=g chk (fun x=>(true,x)) which
def D:aH:=Dof (P:=Tryz.prog) [gD.ent,kG.ent,fG.ent]
def tab:List (Nat×LE Res):= []
theorem run (which:Int):gL E0 [true,true,true] D (iG E0 D tab 9) Tryz.f10 (codeOf Tryz.f10) [.val ⟨.int .i64,which⟩] []=g (fun c z=>req c z) (fun x=>some (res x)) which:=by kernel_rfl
theorem rel (which:Int):J (fun w z=>z=some (res w)) (g chk (fun x=>(true,x)) which) (g (fun c z=>req c z) (fun x=>some (res x)) which):=by
 unfold g
 with_reducible repeat (first|(apply J.lt; intro _)|apply J.rq|apply J.bif|exact J.rt rfl)
theorem ok:nA Tryz.f10=true:=by kernel_rfl
abbrev aS:List AS:= [.one (.val (.int .i64))]
abbrev bS:List Ty:= []
def F (x:ASs aS) (y:Bs bS):Brn Res:=brn (r x.1)
theorem good (x:ASs aS) (y:Bs bS) (h:(F x y).res.1=true):Good Tryz.prog 10 (ASs.mk aS x) (Bs.mk bS y) (F x y).res.2:=
 fP hE0 (ay _) Tryz.func10 ok aC cB (run x.1) (rel x.1) h
def ent:Ent Tryz.prog:=⟨10,shF aS bS F,bM good⟩
def ro:Int→Bool×X:=Classical.choose (⟨r,rfl⟩:∃ q:Int→Bool×X,q=r)
theorem gB:ro=r:=Classical.choose_spec (⟨r,rfl⟩:∃ q:Int→Bool×X,q=r)
def FO (x:ASs aS) (y:Bs bS):Brn Res:=brn (ro x.1)
theorem jN:FO=F:=by unfold FO F; rw [gB]
def nO:Ent Tryz.prog:=⟨10,shF aS bS FO,bM (by rw [jN]; exact good)⟩
end cu
namespace dQ
abbrev X:Type:=(List Int)
def res (x:(List Int)):Res:=⟨[.val ⟨.arr 4 (.int .u64),x⟩],[],[]⟩
abbrev sh0:List (Nat×Sh):= [(1,.pb 500000 (.arr 256 .bool) []),(2,.pb 500001 (.arr 4 (.int .u64)) []),(3,.pb 500002 (.arr 4 (.int .u64)) []),(4,.p (.int .i64))]
abbrev bx0:List (Nat×Ty):= [(500000,.arr 256 .bool),(500001,.arr 4 (.int .u64)),(500002,.arr 4 (.int .u64))]
abbrev aY:List (Nat×Ty):= [(500000,.arr 256 .bool),(500001,.arr 4 (.int .u64)),(500002,.arr 4 (.int .u64))]
abbrev aX:List (Nat×Sh):= []
abbrev aZ:List (Nat×Ty):= []
abbrev bX:List (Nat×Ty):= []
abbrev X0:Type:=Unit×Unit×Unit×Int×Unit
abbrev Y0:Type:=(List Bool)×(List Int)×(List Int)×Unit
abbrev U0:Type:=Unit
abbrev V0:Type:=Unit
def g0 {Z:Type} (rq:Bool→Z→Z) (kn:X0→Y0→Z) (ke:Nat→X0→Y0→Z) (kr:U0→V0→Z) (x:X0) (y:Y0):Z:=
lt (ilt x.2.2.2.1 256) fun v1194=>
bif v1194 then
rq (ile (0:Int) x.2.2.2.1&&ilt x.2.2.2.1 256)<|
lt (y.1.getD x.2.2.2.1.toNat false) fun (v1195:Bool)=>
bif v1195 then
lt (IntKind.i64.wrap (x.2.2.2.1.tdiv 64)) fun v1196=>
lt (IntKind.i64.wrap (x.2.2.2.1.tdiv 64)) fun v1197=>
rq (ile (0:Int) v1197&&ilt v1197 4)<|
lt (y.2.2.1.getD v1197.toNat 0) fun (v1198:Int)=>
lt (x.2.2.2.1.tmod 64) fun (v1199:Int)=>
lt (IntKind.u64.wrap ((1:Int)*2^(min v1199.toNat 64))) fun v1200=>
rq (!ilt v1199 0)<|
lt (eU .u64 (· ||| ·) v1198 v1200) fun v1201=>
rq (ile (0:Int) v1196&&ilt v1196 4)<|
lt (y.2.2.1.set v1196.toNat v1201) fun (v1202:(List Int))=>
lt (IntKind.i64.wrap (x.2.2.2.1+1)) fun v1203=>
kn ((),(),(),v1203,()) (y.1,y.2.1,v1202,())
else
lt (IntKind.i64.wrap (x.2.2.2.1+1)) fun v1204=>
kn ((),(),(),v1204,()) (y.1,y.2.1,y.2.2.1,())
else
ke 0 ((),(),(),x.2.2.2.1,()) (y.1,y.2.1,y.2.2.1,())
def fu0 (x:X0) (y:Y0):Nat:=((256:Int) - x.2.2.2.1).toNat+1
def l0 (x:X0) (y:Y0):Bool×Nat×X0×Y0×U0×V0:=rounds (fun rq kn ke kr x y=>g0 rq kn ke kr x y) () () (fu0 x y) x y
def g {Z:Type} (rq:Bool→Z→Z) (rt:X→Z) (b:(List Bool)):Z:=
lt (dQ.l0 ((),(),(),0,()) (b,[0,0,0,0],[0,0,0,0],())) fun w1205=>
rq w1205.1<|
rt w1205.2.2.2.1.2.2.1
def r (b:(List Bool)):Bool×X:=g chk (fun x=>(true,x)) b
def D:aH:=Dof (P:=Tryz.prog) []
abbrev lf0:=dw (R:=Res) [1] (rounds (fun rq kn ke kr x y=>g0 rq kn ke kr x y) () ()) fu0
def tab:List (Nat×LE Res):= [(4,.typed (eY 25 sh0 bx0 aY aX aZ (lf0)))]
theorem bV:Nonempty (Told E0 D tab Tryz.f72.ntmps (aG (codeOf Tryz.f72) 0) 25 sh0 bx0 aY aX aZ lf0):=fH (sh:=sh0) (bx:=bx0) (ord:=aY) (shR:=aX) (bxR:=aZ) bX (by kernel_rfl) (by kernel_rfl) (by kernel_rfl) [1] _ _ _ @g0 (fun _ _ _ _ _=>by kernel_rfl) (by
  intro _ _ _ _ _ _ _ h i k x y
  simp only [g0]
  with_reducible repeat (first|(apply J.lt; intro _)|apply J.rq|apply J.bif|exact h _ _|exact i _ (by decide) _ _|exact k (by decide) _ _))
theorem bW:fQ E0 D tab Tryz.f72.ntmps (codeOf Tryz.f72):=bT (bs:= [aG (codeOf Tryz.f72) 0]) (by kernel_rfl) (aF (bP (by kernel_rfl) (bV)) aO)
abbrev aS:List AS:= [.one (.val (.arr 256 .bool))]
abbrev bS:List Ty:= []
def ent:Ent Tryz.prog:=bH (D:=D) (tab:=tab) hE0 (ay _) [true] Tryz.func72 (by kernel_rfl) bW aS bS res (fun x y=>r x.1) (fun x y=>g (fun c z=>req c z) (fun x=>some (res x)) x.1) (fun _ _=>by kernel_rfl) (by
 intro x y
 show J _ (g chk (fun x=>(true,x)) x.1) (g (fun c z=>req c z) (fun x=>some (res x)) x.1)
 unfold g
 with_reducible repeat (first|(apply J.lt; intro _)|apply J.rq|apply J.bif|exact J.rt rfl))
end dQ
namespace aM
abbrev X:Type:=(List Int)
def res (x:(List Int)):Res:=⟨[.val ⟨.arr 4 (.int .u64),x⟩],[],[]⟩
abbrev sh0:List (Nat×Sh):= [(0,.p (.int .i64)),(2,.pb 500000 (.arr 4 (.int .u64)) []),(3,.pb 500001 (.arr 256 .bool) []),(4,.p (.int .i64))]
abbrev bx0:List (Nat×Ty):= [(500000,.arr 4 (.int .u64)),(500001,.arr 256 .bool)]
abbrev aY:List (Nat×Ty):= [(500000,.arr 4 (.int .u64)),(500001,.arr 256 .bool)]
abbrev aX:List (Nat×Sh):= []
abbrev aZ:List (Nat×Ty):= []
abbrev bX:List (Nat×Ty):= []
abbrev X0:Type:=Int×Unit×Unit×Int×Unit
abbrev Y0:Type:=(List Int)×(List Bool)×Unit
abbrev U0:Type:=Unit
abbrev V0:Type:=Unit
def g0 {Z:Type} (rq:Bool→Z→Z) (kn:X0→Y0→Z) (ke:Nat→X0→Y0→Z) (kr:U0→V0→Z) (x:X0) (y:Y0):Z:=
lt (ilt x.2.2.2.1 63) fun v1177=>
bif v1177 then
lt (ilt 0 x.1) fun v1178=>
bif v1178 then
lt (x.1.fdiv (2^(min x.2.2.2.1.toNat 64))) fun (v1179:Int)=>
rq (!ilt x.2.2.2.1 0)<|
lt (eU .i64 (· &&& ·) v1179 (1:Int)) fun v1180=>
lt (v1180== 1) fun (v1181:Bool)=>
rq (ile (0:Int) x.2.2.2.1&&ilt x.2.2.2.1 256)<|
lt (y.2.1.set x.2.2.2.1.toNat v1181) fun (v1182:(List Bool))=>
lt (IntKind.i64.wrap (x.2.2.2.1+1)) fun v1183=>
kn (x.1,(),(),v1183,()) (y.1,v1182,())
else
ke 0 (x.1,(),(),x.2.2.2.1,()) (y.1,y.2.1,())
else
ke 0 (x.1,(),(),x.2.2.2.1,()) (y.1,y.2.1,())
def fu0 (x:X0) (y:Y0):Nat:=((63:Int) - x.2.2.2.1).toNat+1
def l0 (x:X0) (y:Y0):Bool×Nat×X0×Y0×U0×V0:=rounds (fun rq kn ke kr x y=>g0 rq kn ke kr x y) () () (fu0 x y) x y
def g {Z:Type} (rq:Bool→Z→Z) (rt:X→Z) (n:Int):Z:=
lt (List.replicate 256 false) fun (v1174:(List Bool))=>
lt (List.replicate 256 false) fun (v1175:(List Bool))=>
lt (aM.l0 (n,(),(),0,()) ([0,0,0,0],v1174,())) fun w1184=>
rq w1184.1<|
lt (dQ.r w1184.2.2.2.1.2.1) fun w1206=>
rq w1206.1<|
rt w1206.2
def r (n:Int):Bool×X:=g chk (fun x=>(true,x)) n
def D:aH:=Dof (P:=Tryz.prog) [dQ.ent]
abbrev lf0:=dw (R:=Res) [1] (rounds (fun rq kn ke kr x y=>g0 rq kn ke kr x y) () ()) fu0
def tab:List (Nat×LE Res):= [(4,.typed (eY 23 sh0 bx0 aY aX aZ (lf0)))]
theorem bV:Nonempty (Told E0 D tab Tryz.f44.ntmps (aG (codeOf Tryz.f44) 0) 23 sh0 bx0 aY aX aZ lf0):=fH (sh:=sh0) (bx:=bx0) (ord:=aY) (shR:=aX) (bxR:=aZ) bX (by kernel_rfl) (by kernel_rfl) (by kernel_rfl) [1] _ _ _ @g0 (fun _ _ _ _ _=>by kernel_rfl) (by
  intro _ _ _ _ _ _ _ h i k x y
  simp only [g0]
  with_reducible repeat (first|(apply J.lt; intro _)|apply J.rq|apply J.bif|exact h _ _|exact i _ (by decide) _ _|exact k (by decide) _ _))
theorem bW:fQ E0 D tab Tryz.f44.ntmps (codeOf Tryz.f44):=bT (bs:= [aG (codeOf Tryz.f44) 0]) (by kernel_rfl) (aF (bP (by kernel_rfl) (bV)) aO)
abbrev aS:List AS:= [.one (.val (.int .i64))]
abbrev bS:List Ty:= []
def ent:Ent Tryz.prog:=bH (D:=D) (tab:=tab) hE0 (ay _) [true] Tryz.func44 (by kernel_rfl) bW aS bS res (fun x y=>r x.1) (fun x y=>g (fun c z=>req c z) (fun x=>some (res x)) x.1) (fun _ _=>by kernel_rfl) (by
 intro x y
 show J _ (g chk (fun x=>(true,x)) x.1) (g (fun c z=>req c z) (fun x=>some (res x)) x.1)
 unfold g
 with_reducible repeat (first|(apply J.lt; intro _)|apply J.rq|apply J.bif|exact J.rt rfl))
end aM
namespace bU
abbrev X:Type:=(List Int)
def res (x:(List Int)):Res:=⟨[.val ⟨.arr 4 (.int .u64),x⟩],[],[]⟩
def brn (w:Bool×X):Brn Res:= .one w.1 (res w.2)
theorem cB (w:Bool×X):(brn w).res=(w.1,res w.2):=rfl
def g {Z:Type} (rq:Bool→Z→Z) (rt:X→Z) (n:Int):Z:=
lt (aM.r n) fun w1207=>
rq w1207.1<|
rt w1207.2
def r (n:Int):Bool×X:=g chk (fun x=>(true,x)) n
def D:aH:=Dof (P:=Tryz.prog) [aM.ent]
def tab:List (Nat×LE Res):= []
theorem run (n:Int):gL E0 [true] D (iG E0 D tab 9) Tryz.f17 (codeOf Tryz.f17) [.val ⟨.int .i64,n⟩] []=g (fun c z=>req c z) (fun x=>some (res x)) n:=by kernel_rfl
theorem rel (n:Int):J (fun w z=>z=some (res w)) (g chk (fun x=>(true,x)) n) (g (fun c z=>req c z) (fun x=>some (res x)) n):=by
 unfold g
 with_reducible repeat (first|(apply J.lt; intro _)|apply J.rq|apply J.bif|exact J.rt rfl)
theorem ok:nA Tryz.f17=true:=by kernel_rfl
abbrev aS:List AS:= [.one (.val (.int .i64))]
abbrev bS:List Ty:= []
def F (x:ASs aS) (y:Bs bS):Brn Res:=brn (r x.1)
theorem good (x:ASs aS) (y:Bs bS) (h:(F x y).res.1=true):Good Tryz.prog 17 (ASs.mk aS x) (Bs.mk bS y) (F x y).res.2:=
 fP hE0 (ay _) Tryz.func17 ok aC cB (run x.1) (rel x.1) h
def ent:Ent Tryz.prog:=⟨17,shF aS bS F,bM good⟩
def ro:Int→Bool×X:=Classical.choose (⟨r,rfl⟩:∃ q:Int→Bool×X,q=r)
theorem gB:ro=r:=Classical.choose_spec (⟨r,rfl⟩:∃ q:Int→Bool×X,q=r)
def FO (x:ASs aS) (y:Bs bS):Brn Res:=brn (ro x.1)
theorem jN:FO=F:=by unfold FO F; rw [gB]
def nO:Ent Tryz.prog:=⟨17,shF aS bS FO,bM (by rw [jN]; exact good)⟩
end bU
namespace bA
abbrev X:Type:=(Option aJ)
def res (x:(Option aJ)):Res:=⟨[.val ⟨.ref eF,x⟩],[],[]⟩
def g {Z:Type} (rq:Bool→Z→Z) (rt:X→Z) (gx:(Option af)):Z:=
bif gx.isNone then
rt none
else
lt (gx.getD ((none,(none,())),([0,0,0,0],()))) fun (v1210:af)=>
rq gx.isSome<|
rt v1210.1.2.1
def r (gx:(Option af)):Bool×X:=g chk (fun x=>(true,x)) gx
def D:aH:=Dof (P:=Tryz.prog) []
def tab:List (Nat×LE Res):= []
abbrev aS:List AS:= [.one (.val (.ref ak))]
abbrev bS:List Ty:= []
def ent:Ent Tryz.prog:=bH (D:=D) (tab:=tab) hE0 (ay _) [true] Tryz.func36 (by kernel_rfl) aC aS bS res (fun x y=>r x.1) (fun x y=>g (fun c z=>req c z) (fun x=>some (res x)) x.1) (fun _ _=>by kernel_rfl) (by
 intro x y
 show J _ (g chk (fun x=>(true,x)) x.1) (g (fun c z=>req c z) (fun x=>some (res x)) x.1)
 unfold g
 with_reducible repeat (first|(apply J.lt; intro _)|apply J.rq|apply J.bif|exact J.rt rfl))
end bA
namespace mM
abbrev X:Type:=(List Int)
def res (x:(List Int)):Res:=⟨[.val ⟨.arr 4 (.int .u64),x⟩],[],[]⟩
def g {Z:Type} (rq:Bool→Z→Z) (rt:X→Z) (rx:(Option aJ)):Z:=
lt (dS.r rx) fun w1220=>
rq w1220.1<|
lt (!w1220.2) fun (v1221:Bool)=>
bif v1221 then
rt [0,0,0,0]
else
lt (rx.getD dV) fun (v1222:aJ)=>
rq rx.isSome<|
rt v1222.1
def r (rx:(Option aJ)):Bool×X:=g chk (fun x=>(true,x)) rx
def D:aH:=Dof (P:=Tryz.prog) [dS.ent]
def tab:List (Nat×LE Res):= []
abbrev aS:List AS:= [.one (.val (.ref eF))]
abbrev bS:List Ty:= []
def ent:Ent Tryz.prog:=bH (D:=D) (tab:=tab) hE0 (ay _) [true] Tryz.func99 (by kernel_rfl) aC aS bS res (fun x y=>r x.1) (fun x y=>g (fun c z=>req c z) (fun x=>some (res x)) x.1) (fun _ _=>by kernel_rfl) (by
 intro x y
 show J _ (g chk (fun x=>(true,x)) x.1) (g (fun c z=>req c z) (fun x=>some (res x)) x.1)
 unfold g
 with_reducible repeat (first|(apply J.lt; intro _)|apply J.rq|apply J.bif|exact J.rt rfl))
end mM
namespace fZ
abbrev X:Type:=(List Int)
def res (x:(List Int)):Res:=⟨[.val ⟨.arr 4 (.int .u64),x⟩],[],[]⟩
def g {Z:Type} (rq:Bool→Z→Z) (rt:X→Z) (gx:(Option af)):Z:=
lt (bA.r gx) fun w1219=>
rq w1219.1<|
lt (mM.r w1219.2) fun w1223=>
rq w1223.1<|
rt w1223.2
def r (gx:(Option af)):Bool×X:=g chk (fun x=>(true,x)) gx
def D:aH:=Dof (P:=Tryz.prog) [bA.ent,mM.ent]
def tab:List (Nat×LE Res):= []
abbrev aS:List AS:= [.one (.val (.ref ak))]
abbrev bS:List Ty:= []
def ent:Ent Tryz.prog:=bH (D:=D) (tab:=tab) hE0 (ay _) [true] Tryz.func70 (by kernel_rfl) aC aS bS res (fun x y=>r x.1) (fun x y=>g (fun c z=>req c z) (fun x=>some (res x)) x.1) (fun _ _=>by kernel_rfl) (by
 intro x y
 show J _ (g chk (fun x=>(true,x)) x.1) (g (fun c z=>req c z) (fun x=>some (res x)) x.1)
 unfold g
 with_reducible repeat (first|(apply J.lt; intro _)|apply J.rq|apply J.bif|exact J.rt rfl))
end fZ
namespace mF
abbrev X:Type:=(List Int)×Int
def res (x:(List Int)×Int):Res:=⟨[.val ⟨.arr 4 (.int .u64),x.1⟩,.val ⟨.int .i64,x.2⟩],[],[]⟩
def g {Z:Type} (rq:Bool→Z→Z) (rt:X→Z) (a:(List Int)) (b:(List Int)) (m:(List Int)):Z:=
lt (qP.r a b) fun w1225=>
rq w1225.1<|
lt (dM.r w1225.2.2) fun w1226=>
rq w1226.1<|
lt (gM.r w1225.2.1 w1226.2 m) fun w1227=>
rq w1227.1<|
rt (w1227.2.1,w1227.2.2)
def r (a:(List Int)) (b:(List Int)) (m:(List Int)):Bool×X:=g chk (fun x=>(true,x)) a b m
def D:aH:=Dof (P:=Tryz.prog) [qP.ent,dM.ent,gM.ent]
def tab:List (Nat×LE Res):= []
abbrev aS:List AS:= [.one (.val (.arr 4 (.int .u64))),.one (.val (.arr 4 (.int .u64))),.one (.val (.arr 4 (.int .u64)))]
abbrev bS:List Ty:= []
def ent:Ent Tryz.prog:=bH (D:=D) (tab:=tab) hE0 (ay _) [true,true] Tryz.func98 (by kernel_rfl) aC aS bS res (fun x y=>r x.1 x.2.1 x.2.2.1) (fun x y=>g (fun c z=>req c z) (fun x=>some (res x)) x.1 x.2.1 x.2.2.1) (fun _ _=>by kernel_rfl) (by
 intro x y
 show J _ (g chk (fun x=>(true,x)) x.1 x.2.1 x.2.2.1) (g (fun c z=>req c z) (fun x=>some (res x)) x.1 x.2.1 x.2.2.1)
 unfold g
 with_reducible repeat (first|(apply J.lt; intro _)|apply J.rq|apply J.bif|exact J.rt rfl))
end mF
namespace gZ
abbrev X:Type:=(List Int)
def res (x:(List Int)):Res:=⟨[.val ⟨.arr 4 (.int .u64),x⟩],[],[]⟩
def g {Z:Type} (rq:Bool→Z→Z) (rt:X→Z) (gx:(Option af)) (a:(List Int)) (b:(List Int)):Z:=
lt (fZ.r gx) fun w1224=>
rq w1224.1<|
lt (mF.r a b w1224.2) fun w1228=>
rq w1228.1<|
rt w1228.2.1
def r (gx:(Option af)) (a:(List Int)) (b:(List Int)):Bool×X:=g chk (fun x=>(true,x)) gx a b
def D:aH:=Dof (P:=Tryz.prog) [fZ.ent,mF.ent]
def tab:List (Nat×LE Res):= []
abbrev aS:List AS:= [.one (.val (.ref ak)),.one (.val (.arr 4 (.int .u64))),.one (.val (.arr 4 (.int .u64)))]
abbrev bS:List Ty:= []
def ent:Ent Tryz.prog:=bH (D:=D) (tab:=tab) hE0 (ay _) [true] Tryz.func65 (by kernel_rfl) aC aS bS res (fun x y=>r x.1 x.2.1 x.2.2.1) (fun x y=>g (fun c z=>req c z) (fun x=>some (res x)) x.1 x.2.1 x.2.2.1) (fun _ _=>by kernel_rfl) (by
 intro x y
 show J _ (g chk (fun x=>(true,x)) x.1 x.2.1 x.2.2.1) (g (fun c z=>req c z) (fun x=>some (res x)) x.1 x.2.1 x.2.2.1)
 unfold g
 with_reducible repeat (first|(apply J.lt; intro _)|apply J.rq|apply J.bif|exact J.rt rfl))
end gZ
namespace mJ
abbrev X:Type:=Bool
def res (x:Bool):Res:=⟨[.val ⟨.bool,x⟩],[],[]⟩
def g {Z:Type} (rq:Bool→Z→Z) (rt:X→Z) (a:(List Int)):Z:=
lt (ieq (a.getD 0 0) 0&&(ieq (a.getD 1 0) 0&&(ieq (a.getD 2 0) 0&&(ieq (a.getD 3 0) 0&&true)))) fun v1245=>
rt v1245
def r (a:(List Int)):Bool×X:=g chk (fun x=>(true,x)) a
def D:aH:=Dof (P:=Tryz.prog) []
def tab:List (Nat×LE Res):= []
abbrev aS:List AS:= [.one (.val (.arr 4 (.int .u64)))]
abbrev bS:List Ty:= []
def ent:Ent Tryz.prog:=bH (D:=D) (tab:=tab) hE0 (ay _) [true] Tryz.func66 (by kernel_rfl) aC aS bS res (fun x y=>r x.1) (fun x y=>g (fun c z=>req c z) (fun x=>some (res x)) x.1) (fun _ _=>by kernel_rfl) (by
 intro x y
 show J _ (g chk (fun x=>(true,x)) x.1) (g (fun c z=>req c z) (fun x=>some (res x)) x.1)
 unfold g
 with_reducible repeat (first|(apply J.lt; intro _)|apply J.rq|apply J.bif|exact J.rt rfl))
end mJ
namespace eO
abbrev X:Type:=Nat×(Unit)×(Nat×Nat×(Bool×List (List Int)))
def rH (x:Unit):Res:=⟨[.nil],[],[]⟩
def rG (x:Nat×Nat×(Bool×List (List Int))):Res:=⟨[.vs 1000000 (.arr 4 (.int .u64)) [] x.1 x.2.1],[],[⟨.dyn (.arr 4 (.int .u64)),x.2.2⟩]⟩
def res (x:X):Res:=bif Nat.beq x.1 0 then rH x.2.1 else (rG x.2.2)
def brn (w:Bool×X):Brn Res:= .ite (Nat.beq w.2.1 0) (.one w.1 (rH w.2.2.1)) (.one w.1 (rG w.2.2.2))
theorem cB (w:Bool×X):(brn w).res=(w.1,res w.2):=by
 cases h0:Nat.beq w.2.1 0 with
 |true=>simp only [brn,res,Brn.res,h0,cond_true,cond_false]
 |false=>
  simp only [brn,res,Brn.res,h0,cond_true,cond_false]
abbrev sh1:List (Nat×Sh):= [(4,.nil),(5,.vs 501000 (.arr 4 (.int .u64)) [])]
abbrev bx1:List (Nat×Ty):= [(501000,.dyn (.arr 4 (.int .u64)))]
abbrev nI:List (Nat×Ty):= [(501000,.dyn (.arr 4 (.int .u64)))]
abbrev nG:List (Nat×Sh):= []
abbrev nS:List (Nat×Ty):= []
abbrev rQ:List (Nat×Ty):= []
abbrev X1:Type:=Unit×(Nat×Nat)×Unit
abbrev Y1:Type:=(Bool×List (List Int))×Unit
abbrev U1:Type:=Unit
abbrev V1:Type:=Unit
def g1 {Z:Type} (rq:Bool→Z→Z) (kn:X1→Y1→Z) (ke:Nat→X1→Y1→Z) (kr:U1→V1→Z) (x:X1) (y:Y1):Z:=
lt ((x.2.1.2:Nat):Int) fun (v1264:Int)=>
lt (ilt 0 v1264) fun v1265=>
bif v1265 then
lt ((x.2.1.2:Nat):Int) fun (v1266:Int)=>
lt (IntKind.i64.wrap (v1266 - 1)) fun v1267=>
lt ((x.2.1.1+v1267.toNat)) fun (n1268:Nat)=>
rq (ile (0:Int) v1267&&ilt v1267 ((x.2.1.2:Nat):Int))<|
lt (y.1.2.getD n1268 [0,0,0,0]) fun (v1269:(List Int))=>
lt (mJ.r v1269) fun w1270=>
rq w1270.1<|
bif w1270.2 then
lt ((x.2.1.2:Nat):Int) fun (v1271:Int)=>
lt (IntKind.i64.wrap (v1271 - 1)) fun v1272=>
rq (ile (0:Int) v1272&&ile v1272 ((x.2.1.2:Nat):Int))<|
kn ((),(x.2.1.1,v1272.toNat),()) (y.1,())
else
ke 2 ((),(x.2.1.1,x.2.1.2),()) (y.1,())
else
ke 2 ((),(x.2.1.1,x.2.1.2),()) (y.1,())
def fu1 (x:X1) (y:Y1):Nat:=(((x.2.1.2:Nat):Int) - (0:Int)).toNat+1
def l1 (x:X1) (y:Y1):Bool×Nat×X1×Y1×U1×V1:=rounds (fun rq kn ke kr x y=>g1 rq kn ke kr x y) () () (fu1 x y) x y
abbrev sh0:List (Nat×Sh):= [(0,.p (.ref ak)),(4,.nil),(5,.va 500000 (.arr 4 (.int .u64))),(11,.p (.sl (.arr 4 (.int .u64)))),(12,.p (.int .i64)),(13,.p (.int .i64))]
abbrev bx0:List (Nat×Ty):= [(500000,.dyn (.arr 4 (.int .u64)))]
abbrev aY:List (Nat×Ty):= [(500000,.dyn (.arr 4 (.int .u64)))]
abbrev aX:List (Nat×Sh):= []
abbrev aZ:List (Nat×Ty):= []
abbrev bX:List (Nat×Ty):= []
abbrev X0:Type:=(Option af)×Unit×Unit×(List (List Int))×Int×Int×Unit
abbrev Y0:Type:=(Bool×List (List Int))×Unit
abbrev U0:Type:=Unit
abbrev V0:Type:=Unit
def g0 {Z:Type} (rq:Bool→Z→Z) (kn:X0→Y0→Z) (ke:Nat→X0→Y0→Z) (kr:U0→V0→Z) (x:X0) (y:Y0):Z:=
lt (ilt x.2.2.2.2.2.1 x.2.2.2.2.1) fun v1257=>
bif v1257 then
lt (x.2.2.2.1.getD x.2.2.2.2.2.1.toNat [0,0,0,0]) fun (v1258:(List Int))=>
rq (ile (0:Int) x.2.2.2.2.2.1&&ilt x.2.2.2.2.2.1 (x.2.2.2.1.length:Int))<|
lt (gZ.r x.1 v1258 [0,0,0,0]) fun w1259=>
rq w1259.1<|
lt (y.1.1&&false) fun (v1260:Bool)=>
lt (y.1.2++ [w1259.2]) fun (v1261:(List (List Int)))=>
rq (nle ((2*(y.1.2.length+1)+512)*32) 70368744177664)<|
lt (IntKind.i64.wrap (x.2.2.2.2.2.1+1)) fun v1262=>
kn (x.1,(),(),x.2.2.2.1,x.2.2.2.2.1,v1262,()) ((v1260,v1261),())
else
ke 0 (x.1,(),(),x.2.2.2.1,x.2.2.2.2.1,x.2.2.2.2.2.1,()) (y.1,())
def fu0 (x:X0) (y:Y0):Nat:=(x.2.2.2.2.1 - x.2.2.2.2.2.1).toNat+1
def l0 (x:X0) (y:Y0):Bool×Nat×X0×Y0×U0×V0:=rounds (fun rq kn ke kr x y=>g0 rq kn ke kr x y) () () (fu0 x y) x y
def g {Z:Type} (rq:Bool→Z→Z) (rt:X→Z) (gx:(Option af)) (f:(List (List Int))):Z:=
lt (bA.r gx) fun w1255=>
rq w1255.1<|
bif w1255.2.isNone then
rt (0,(),(0,0,(true,[])))
else
lt (f.length:Int) fun (v1256:Int)=>
lt (eO.l0 (gx,(),(),f,v1256,0,()) ((true,[]),())) fun w1263=>
rq w1263.1<|
lt (eO.l1 ((),(0,w1263.2.2.2.1.1.2.length),()) (w1263.2.2.2.1.1,())) fun w1273=>
rq w1273.1<|
rt (1,(),(w1273.2.2.1.2.1.1,w1273.2.2.1.2.1.2,w1273.2.2.2.1.1))
def r (gx:(Option af)) (f:(List (List Int))):Bool×X:=g chk (fun x=>(true,x)) gx f
def D:aH:=Dof (P:=Tryz.prog) [bA.ent,gZ.ent,mJ.ent]
abbrev lf1:=dw (R:=Res) [3] (rounds (fun rq kn ke kr x y=>g1 rq kn ke kr x y) () ()) fu1
abbrev lf0:=dw (R:=Res) [1] (rounds (fun rq kn ke kr x y=>g0 rq kn ke kr x y) () ()) fu0
def tab:List (Nat×LE Res):= [(10,.typed (eY 43 sh1 bx1 nI nG nS (lf1))),(6,.typed (eY 43 sh0 bx0 aY aX aZ (lf0)))]
theorem run (gx:(Option af)) (f:(List (List Int))):gL E0 [false] D (iG E0 D tab 9) Tryz.f37 (codeOf Tryz.f37) [.val ⟨.ref ak,gx⟩,.val ⟨.sl (.arr 4 (.int .u64)),f⟩] []=g (fun c z=>req c z) (fun x=>some (res x)) gx f:=by kernel_rfl
theorem rel (gx:(Option af)) (f:(List (List Int))):J (fun w z=>z=some (res w)) (g chk (fun x=>(true,x)) gx f) (g (fun c z=>req c z) (fun x=>some (res x)) gx f):=by
 unfold g
 with_reducible repeat (first|(apply J.lt; intro _)|apply J.rq|apply J.bif|exact J.rt rfl)
theorem rf:Nonempty (Told E0 D tab Tryz.f37.ntmps (aG (codeOf Tryz.f37) 1) 43 sh1 bx1 nI nG nS lf1):=fH (sh:=sh1) (bx:=bx1) (ord:=nI) (shR:=nG) (bxR:=nS) rQ (by kernel_rfl) (by kernel_rfl) (by kernel_rfl) [3] _ _ _ @g1 (fun _ _ _ _ _=>by kernel_rfl) (by
  intro _ _ _ _ _ _ _ h i k x y
  simp only [g1]
  with_reducible repeat (first|(apply J.lt; intro _)|apply J.rq|apply J.bif|exact h _ _|exact i _ (by decide) _ _|exact k (by decide) _ _))
theorem bV:Nonempty (Told E0 D tab Tryz.f37.ntmps (aG (codeOf Tryz.f37) 0) 43 sh0 bx0 aY aX aZ lf0):=fH (sh:=sh0) (bx:=bx0) (ord:=aY) (shR:=aX) (bxR:=aZ) bX (by kernel_rfl) (by kernel_rfl) (by kernel_rfl) [1] _ _ _ @g0 (fun _ _ _ _ _=>by kernel_rfl) (by
  intro _ _ _ _ _ _ _ h i k x y
  simp only [g0]
  with_reducible repeat (first|(apply J.lt; intro _)|apply J.rq|apply J.bif|exact h _ _|exact i _ (by decide) _ _|exact k (by decide) _ _))
theorem bW:fQ E0 D tab Tryz.f37.ntmps (codeOf Tryz.f37):=bT (bs:= [aG (codeOf Tryz.f37) 0,aG (codeOf Tryz.f37) 1]) (by kernel_rfl) (aF (bP (by kernel_rfl) (bV)) (aF (bP (by kernel_rfl) (rf)) aO))
theorem ok:nA Tryz.f37=true:=by kernel_rfl
abbrev aS:List AS:= [.one (.val (.ref ak)),.one (.val (.sl (.arr 4 (.int .u64))))]
abbrev bS:List Ty:= []
def F (x:ASs aS) (y:Bs bS):Brn Res:=brn (r x.1 x.2.1)
theorem good (x:ASs aS) (y:Bs bS) (h:(F x y).res.1=true):Good Tryz.prog 37 (ASs.mk aS x) (Bs.mk bS y) (F x y).res.2:=
 fP hE0 (ay _) Tryz.func37 ok bW cB (run x.1 x.2.1) (rel x.1 x.2.1) h
def ent:Ent Tryz.prog:=⟨37,shF aS bS F,bM good⟩
end eO
namespace om
abbrev X:Type:=(List Int)
def res (x:(List Int)):Res:=⟨[.val ⟨.arr 4 (.int .u64),x⟩],[],[]⟩
def g {Z:Type} (rq:Bool→Z→Z) (rt:X→Z) (gx:(Option af)):Z:=
bif gx.isNone then
rt [0,0,0,0]
else
lt (gx.getD ((none,(none,())),([0,0,0,0],()))) fun (v1279:af)=>
rq gx.isSome<|
rt v1279.2.1
def r (gx:(Option af)):Bool×X:=g chk (fun x=>(true,x)) gx
def D:aH:=Dof (P:=Tryz.prog) []
def tab:List (Nat×LE Res):= []
abbrev aS:List AS:= [.one (.val (.ref ak))]
abbrev bS:List Ty:= []
def ent:Ent Tryz.prog:=bH (D:=D) (tab:=tab) hE0 (ay _) [true] Tryz.func67 (by kernel_rfl) aC aS bS res (fun x y=>r x.1) (fun x y=>g (fun c z=>req c z) (fun x=>some (res x)) x.1) (fun _ _=>by kernel_rfl) (by
 intro x y
 show J _ (g chk (fun x=>(true,x)) x.1) (g (fun c z=>req c z) (fun x=>some (res x)) x.1)
 unfold g
 with_reducible repeat (first|(apply J.lt; intro _)|apply J.rq|apply J.bif|exact J.rt rfl))
end om
namespace fq
abbrev X:Type:=(Option aJ)
def res (x:(Option aJ)):Res:=⟨[.val ⟨.ref eF,x⟩],[],[]⟩
def g {Z:Type} (rq:Bool→Z→Z) (rt:X→Z) (gx:(Option af)):Z:=
bif gx.isNone then
rt none
else
lt (gx.getD ((none,(none,())),([0,0,0,0],()))) fun (v1281:af)=>
rq gx.isSome<|
rt v1281.1.1
def r (gx:(Option af)):Bool×X:=g chk (fun x=>(true,x)) gx
def D:aH:=Dof (P:=Tryz.prog) []
def tab:List (Nat×LE Res):= []
abbrev aS:List AS:= [.one (.val (.ref ak))]
abbrev bS:List Ty:= []
def ent:Ent Tryz.prog:=bH (D:=D) (tab:=tab) hE0 (ay _) [true] Tryz.func69 (by kernel_rfl) aC aS bS res (fun x y=>r x.1) (fun x y=>g (fun c z=>req c z) (fun x=>some (res x)) x.1) (fun _ _=>by kernel_rfl) (by
 intro x y
 show J _ (g chk (fun x=>(true,x)) x.1) (g (fun c z=>req c z) (fun x=>some (res x)) x.1)
 unfold g
 with_reducible repeat (first|(apply J.lt; intro _)|apply J.rq|apply J.bif|exact J.rt rfl))
end fq
namespace mI
abbrev X:Type:=(List Int)
def res (x:(List Int)):Res:=⟨[.val ⟨.arr 4 (.int .u64),x⟩],[],[]⟩
def g {Z:Type} (rq:Bool→Z→Z) (rt:X→Z) (gx:(Option af)) (a:(List Int)) (e:(List Int)):Z:=
lt (fq.r gx) fun w1282=>
rq w1282.1<|
lt (eH.r w1282.2 a e) fun w1283=>
rq w1283.1<|
rt w1283.2
def r (gx:(Option af)) (a:(List Int)) (e:(List Int)):Bool×X:=g chk (fun x=>(true,x)) gx a e
def D:aH:=Dof (P:=Tryz.prog) [fq.ent,eH.ent]
def tab:List (Nat×LE Res):= []
abbrev aS:List AS:= [.one (.val (.ref ak)),.one (.val (.arr 4 (.int .u64))),.one (.val (.arr 4 (.int .u64)))]
abbrev bS:List Ty:= []
def ent:Ent Tryz.prog:=bH (D:=D) (tab:=tab) hE0 (ay _) [true] Tryz.func51 (by kernel_rfl) aC aS bS res (fun x y=>r x.1 x.2.1 x.2.2.1) (fun x y=>g (fun c z=>req c z) (fun x=>some (res x)) x.1 x.2.1 x.2.2.1) (fun _ _=>by kernel_rfl) (by
 intro x y
 show J _ (g chk (fun x=>(true,x)) x.1 x.2.1 x.2.2.1) (g (fun c z=>req c z) (fun x=>some (res x)) x.1 x.2.1 x.2.2.1)
 unfold g
 with_reducible repeat (first|(apply J.lt; intro _)|apply J.rq|apply J.bif|exact J.rt rfl))
end mI
namespace kY
abbrev X:Type:=(List Int)
def res (x:(List Int)):Res:=⟨[.val ⟨.arr 4 (.int .u64),x⟩],[],[]⟩
def g {Z:Type} (rq:Bool→Z→Z) (rt:X→Z) (gx:(Option af)) (e:(List Int)):Z:=
lt (om.r gx) fun w1280=>
rq w1280.1<|
lt (mI.r gx w1280.2 e) fun w1284=>
rq w1284.1<|
rt w1284.2
def r (gx:(Option af)) (e:(List Int)):Bool×X:=g chk (fun x=>(true,x)) gx e
def D:aH:=Dof (P:=Tryz.prog) [om.ent,mI.ent]
def tab:List (Nat×LE Res):= []
abbrev aS:List AS:= [.one (.val (.ref ak)),.one (.val (.arr 4 (.int .u64)))]
abbrev bS:List Ty:= []
def ent:Ent Tryz.prog:=bH (D:=D) (tab:=tab) hE0 (ay _) [true] Tryz.func38 (by kernel_rfl) aC aS bS res (fun x y=>r x.1 x.2.1) (fun x y=>g (fun c z=>req c z) (fun x=>some (res x)) x.1 x.2.1) (fun _ _=>by kernel_rfl) (by
 intro x y
 show J _ (g chk (fun x=>(true,x)) x.1 x.2.1) (g (fun c z=>req c z) (fun x=>some (res x)) x.1 x.2.1)
 unfold g
 with_reducible repeat (first|(apply J.lt; intro _)|apply J.rq|apply J.bif|exact J.rt rfl))
end kY
end Go.Own
