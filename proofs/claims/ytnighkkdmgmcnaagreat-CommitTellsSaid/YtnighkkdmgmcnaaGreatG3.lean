/- What functions compute, printed by wip/gen/gen2.py. -/
import Derived.Test.YtnighkkdmgmcnaaGreatG2
set_option linter.unusedVariables false
set_option linter.unusedSimpArgs false
set_option maxRecDepth 100000
noncomputable section
namespace Go.Own
open Go.Proofs Go.Proofs.YtnighkkdmgmcnaaGreat
namespace gq
abbrev X:Type:=Int
def res (x:Int):Res:=⟨[.val ⟨.int .i64,x⟩],[],[]⟩
abbrev sh0:List (Nat×Sh):= [(0,.p (.sl lu)),(2,.p (.int .i64)),(5,.p (.int .i64))]
abbrev bx0:List (Nat×Ty):= []
abbrev aZ:List (Nat×Ty):= []
abbrev aY:List (Nat×Sh):= [(2,.p (.int .i64))]
abbrev bf:List (Nat×Ty):= []
abbrev bW:List (Nat×Ty):= []
abbrev X0:Type:=(List iU)×Int×Int×Unit
abbrev Y0:Type:=Unit
abbrev U0:Type:=Int×Unit
abbrev V0:Type:=Unit
def g0 {Z:Type} (rq:Bool→Z→Z) (kn:X0→Y0→Z) (ke:Nat→X0→Y0→Z) (kr:U0→V0→Z) (x:X0) (y:Y0):Z:=
lt (x.1.length:Int) fun (v41:Int)=>
lt (ilt x.2.2.1 v41) fun v42=>
bif v42 then
lt (x.1.getD x.2.2.1.toNat ([0,0,0,0],(0,()))) fun (v43:iU)=>
rq (ile (0:Int) x.2.2.1&&ilt x.2.2.1 (x.1.length:Int))<|
lt (IntKind.i64.wrap (x.2.2.1 - 1)) fun v44=>
lt (x.1.getD v44.toNat ([0,0,0,0],(0,()))) fun (v45:iU)=>
rq (ile (0:Int) v44&&ilt v44 (x.1.length:Int))<|
lt (x.1.getD x.2.2.1.toNat ([0,0,0,0],(0,()))) fun (v46:iU)=>
rq (ile (0:Int) x.2.2.1&&ilt x.2.2.1 (x.1.length:Int))<|
lt (nV.r v43.1 v45.1 v46.2.1) fun w1031=>
rq w1031.1<|
lt (!w1031.2) fun (v1032:Bool)=>
bif v1032 then
kr (4,()) ()
else
lt (IntKind.i64.wrap (x.2.2.1+1)) fun v1033=>
kn (x.1,x.2.1,v1033,()) ()
else
ke 0 (x.1,x.2.1,x.2.2.1,()) ()
def fu0 (x:X0) (y:Y0):Nat:=((x.1.length:Int) - x.2.2.1).toNat+1
def l0 (x:X0) (y:Y0):Bool×Nat×X0×Y0×U0×V0:=rounds (fun rq kn ke kr x y=>g0 rq kn ke kr x y) (0,()) () (fu0 x y) x y
def g {Z:Type} (rq:Bool→Z→Z) (rt:X→Z) (l:(List iU)):Z:=
lt (l.length:Int) fun (v10:Int)=>
lt (ilt v10 1) fun v11=>
bif v11 then
rt 4
else
lt (l.length:Int) fun (v12:Int)=>
lt (ilt 8 v12) fun v13=>
bif v13 then
rt 4
else
lt (l.getD 0 ([0,0,0,0],(0,()))) fun (v14:iU)=>
rq (ilt (0:Int) (l.length:Int))<|
lt (qU.r v14.1) fun w21=>
rq w21.1<|
lt (!w21.2.2) fun (v22:Bool)=>
bif v22 then
rt 4
else
lt (oI.r w21.2.1) fun w35=>
rq w35.1<|
lt (!w35.2) fun (v36:Bool)=>
bif v36 then
rt 4
else
lt (l.getD 0 ([0,0,0,0],(0,()))) fun (v37:iU)=>
rq (ilt (0:Int) (l.length:Int))<|
lt (v37.2.1 != 0) fun (v38:Bool)=>
bif v38 then
rt 4
else
lt (gq.l0 (l,0,1,()) ()) fun w1034=>
rq w1034.1<|
bif Nat.beq w1034.2.1 0 then
rt w1034.2.2.2.2.1.1
else
rt 0
def r (l:(List iU)):Bool×X:=g chk (fun x=>(true,x)) l
def D:aH:=Dof (P:=Tryz.prog) [qU.ent,oI.ent,nV.ent]
abbrev lf0:=dh (R:=Res) [0,1] (rounds (fun rq kn ke kr x y=>g0 rq kn ke kr x y) (0,()) ()) fu0
def tab:List (Nat×LE Res):= [(8,.typed (eG 60 sh0 bx0 aZ aY bf (lf0)))]
theorem bT:Nonempty (Told E0 D tab Tryz.f55.ntmps (aF (codeOf Tryz.f55) 0) 60 sh0 bx0 aZ aY bf lf0):=fE (sh:=sh0) (bx:=bx0) (ord:=aZ) (shR:=aY) (bxR:=bf) bW (by kernel_rfl) (by kernel_rfl) (by kernel_rfl) [0,1] _ _ _ @g0 (fun _ _ _ _ _=>by kernel_rfl) (by
  intro _ _ _ _ _ _ _ h i k x y
  simp only [g0]
  with_reducible repeat (first|(apply J.lt; intro _)|apply J.rq|apply J.bif|exact h _ _|exact i _ (by decide) _ _|exact k (by decide) _ _))
theorem bU:fI E0 D tab Tryz.f55.ntmps (codeOf Tryz.f55):=bP (bs:= [aF (codeOf Tryz.f55) 0]) (by kernel_rfl) (aD (bO (by kernel_rfl) (bT)) aO)
abbrev aS:List AS:= [.one (.val (.sl lu))]
abbrev bS:List Ty:= []
def ent:Ent Tryz.prog:=bE (D:=D) (tab:=tab) hE0 (ay _) [true] Tryz.func55 (by kernel_rfl) bU aS bS res (fun x y=>r x.1) (fun x y=>g (fun c z=>req c z) (fun x=>some (res x)) x.1) (fun _ _=>by kernel_rfl) (by
 intro x y
 show J _ (g chk (fun x=>(true,x)) x.1) (g (fun c z=>req c z) (fun x=>some (res x)) x.1)
 unfold g
 with_reducible repeat (first|(apply J.lt; intro _)|apply J.rq|apply J.bif|exact J.rt rfl))
end gq
namespace iM
abbrev X:Type:=Bool
def res (x:Bool):Res:=⟨[.val ⟨.bool,x⟩],[],[]⟩
def g {Z:Type} (rq:Bool→Z→Z) (rt:X→Z) (rx:(Option aM)) (a:(List Int)):Z:=
lt (dU.r rx) fun w1050=>
rq w1050.1<|
bif w1050.2 then
lt (rx.getD dX) fun (v1051:aM)=>
rq rx.isSome<|
lt (jM.r a v1051.1) fun w1052=>
rq w1052.1<|
lt (ilt w1052.2 0) fun v1053=>
rt v1053
else
rt false
def r (rx:(Option aM)) (a:(List Int)):Bool×X:=g chk (fun x=>(true,x)) rx a
def D:aH:=Dof (P:=Tryz.prog) [dU.ent,jM.ent]
def tab:List (Nat×LE Res):= []
abbrev aS:List AS:= [.one (.val (.ref eU)),.one (.val (.arr 4 (.int .u64)))]
abbrev bS:List Ty:= []
def ent:Ent Tryz.prog:=bE (D:=D) (tab:=tab) hE0 (ay _) [true] Tryz.func58 (by kernel_rfl) aC aS bS res (fun x y=>r x.1 x.2.1) (fun x y=>g (fun c z=>req c z) (fun x=>some (res x)) x.1 x.2.1) (fun _ _=>by kernel_rfl) (by
 intro x y
 show J _ (g chk (fun x=>(true,x)) x.1 x.2.1) (g (fun c z=>req c z) (fun x=>some (res x)) x.1 x.2.1)
 unfold g
 with_reducible repeat (first|(apply J.lt; intro _)|apply J.rq|apply J.bif|exact J.rt rfl))
end iM
namespace kH
abbrev X:Type:=Nat×((Option af)×Int)×(Int×af)
def rP (x:(Option af)×Int):Res:=⟨[.val ⟨.ref ak,x.1⟩,.val ⟨.int .i64,x.2⟩],[],[]⟩
def rO (x:Int×af):Res:=⟨[.pb 1000000 ak [],.val ⟨.int .i64,x.1⟩],[],[⟨ak,x.2⟩]⟩
def res (x:X):Res:=bif Nat.beq x.1 0 then rP x.2.1 else (rO x.2.2)
def brn (w:Bool×X):Brn Res:= .ite (Nat.beq w.2.1 0) (.one w.1 (rP w.2.2.1)) (.one w.1 (rO w.2.2.2))
theorem cZ (w:Bool×X):(brn w).res=(w.1,res w.2):=by
 cases h0:Nat.beq w.2.1 0 with
 |true=>simp only [brn,res,Brn.res,h0,cond_true,cond_false]
 |false=>
  simp only [brn,res,Brn.res,h0,cond_true,cond_false]
def g {Z:Type} (rq:Bool→Z→Z) (rt:X→Z) (p:jb):Z:=
lt (p.1.length:Int) fun (v8:Int)=>
lt (ilt v8 2) fun v9=>
bif v9 then
rt (0,(none,4),(0,((none,(none,())),([0,0,0,0],()))))
else
lt (gq.r p.1) fun w1035=>
rq w1035.1<|
lt (w1035.2 != 0) fun (v1036:Bool)=>
bif v1036 then
rt (0,(none,4),(0,((none,(none,())),([0,0,0,0],()))))
else
lt (IntKind.i64.wrap (v8 - 1)) fun v1037=>
lt (p.1.getD v1037.toNat ([0,0,0,0],(0,()))) fun (v1038:iU)=>
rq (ile (0:Int) v1037&&ilt v1037 (p.1.length:Int))<|
lt (ny.r v1038.1) fun w1039=>
rq w1039.1<|
lt (w1039.2.2 != 0) fun (v1040:Bool)=>
bif v1040 then
rt (0,(none,4),(0,((none,(none,())),([0,0,0,0],()))))
else
lt (IntKind.i64.wrap (v8 - 2)) fun v1041=>
lt (p.1.getD v1041.toNat ([0,0,0,0],(0,()))) fun (v1042:iU)=>
rq (ile (0:Int) v1041&&ilt v1041 (p.1.length:Int))<|
lt (ny.r v1042.1) fun w1043=>
rq w1043.1<|
lt (w1043.2.2 != 0) fun (v1044:Bool)=>
bif v1044 then
rt (0,(none,4),(0,((none,(none,())),([0,0,0,0],()))))
else
lt (qR.r v1042.1) fun w1045=>
rq w1045.1<|
lt (ilt w1045.2 10) fun v1046=>
bif v1046 then
rt (0,(none,4),(0,((none,(none,())),([0,0,0,0],()))))
else
lt (ieq (p.2.1.getD 0 0) 0&&(ieq (p.2.1.getD 1 0) 0&&(ieq (p.2.1.getD 2 0) 0&&(ieq (p.2.1.getD 3 0) 0&&true)))) fun v1047=>
bif v1047 then
rt (0,(none,4),(0,((none,(none,())),([0,0,0,0],()))))
else
lt (dN.r 1) fun w1048=>
rq w1048.1<|
lt (ieq (p.2.1.getD 0 0) (w1048.2.getD 0 0)&&(ieq (p.2.1.getD 1 0) (w1048.2.getD 1 0)&&(ieq (p.2.1.getD 2 0) (w1048.2.getD 2 0)&&(ieq (p.2.1.getD 3 0) (w1048.2.getD 3 0)&&true)))) fun v1049=>
bif v1049 then
rt (0,(none,4),(0,((none,(none,())),([0,0,0,0],()))))
else
lt (iM.r w1039.2.1 p.2.1) fun w1054=>
rq w1054.1<|
lt (!w1054.2) fun (v1055:Bool)=>
bif v1055 then
rt (0,(none,4),(0,((none,(none,())),([0,0,0,0],()))))
else
lt (eY.r w1039.2.1 p.2.1 v1042.1) fun w1056=>
rq w1056.1<|
lt (dN.r 1) fun w1057=>
rq w1057.1<|
lt (!(ieq (w1056.2.getD 0 0) (w1057.2.getD 0 0)&&(ieq (w1056.2.getD 1 0) (w1057.2.getD 1 0)&&(ieq (w1056.2.getD 2 0) (w1057.2.getD 2 0)&&(ieq (w1056.2.getD 3 0) (w1057.2.getD 3 0)&&true))))) fun (v1058:Bool)=>
bif v1058 then
rt (0,(none,4),(0,((none,(none,())),([0,0,0,0],()))))
else
rt (1,(none,0),(0,((w1039.2.1,(w1043.2.1,())),(p.2.1,()))))
def r (p:jb):Bool×X:=g chk (fun x=>(true,x)) p
def D:aH:=Dof (P:=Tryz.prog) [gq.ent,ny.ent,qR.ent,dN.ent,iM.ent,eY.ent]
def tab:List (Nat×LE Res):= []
theorem run (p:jb):gQ E0 [false,true] D (iI E0 D tab 9) Tryz.f27 (codeOf Tryz.f27) [.val ⟨kQ,p⟩] []=g (fun c z=>req c z) (fun x=>some (res x)) p:=by kernel_rfl
theorem rel (p:jb):J (fun w z=>z=some (res w)) (g chk (fun x=>(true,x)) p) (g (fun c z=>req c z) (fun x=>some (res x)) p):=by
 unfold g
 with_reducible repeat (first|(apply J.lt; intro _)|apply J.rq|apply J.bif|exact J.rt rfl)
theorem ok:nA Tryz.f27=true:=by kernel_rfl
abbrev aS:List AS:= [.one (.val kQ)]
abbrev bS:List Ty:= []
def F (x:ASs aS) (y:Bs bS):Brn Res:=brn (r x.1)
theorem good (x:ASs aS) (y:Bs bS) (h:(F x y).res.1=true):Good Tryz.prog 27 (ASs.mk aS x) (Bs.mk bS y) (F x y).res.2:=
 fV hE0 (ay _) Tryz.func27 ok aC cZ (run x.1) (rel x.1) h
def ent:Ent Tryz.prog:=⟨27,shF aS bS F,bV good⟩
end kH
namespace ku
abbrev X:Type:=(List Int)
def res (x:(List Int)):Res:=⟨[.val ⟨.arr 4 (.int .u64),x⟩],[],[]⟩
def g {Z:Type} (rq:Bool→Z→Z) (rt:X→Z) (p:jb):Z:=
lt (p.1.length:Int) fun (v1060:Int)=>
lt (ilt v1060 2) fun v1061=>
bif v1061 then
rt [0,0,0,0]
else
lt (p.1.length:Int) fun (v1062:Int)=>
lt (IntKind.i64.wrap (v1062 - 1)) fun v1063=>
lt (p.1.getD v1063.toNat ([0,0,0,0],(0,()))) fun (v1064:iU)=>
rq (ile (0:Int) v1063&&ilt v1063 (p.1.length:Int))<|
rt v1064.1
def r (p:jb):Bool×X:=g chk (fun x=>(true,x)) p
def D:aH:=Dof (P:=Tryz.prog) []
def tab:List (Nat×LE Res):= []
abbrev aS:List AS:= [.one (.val kQ)]
abbrev bS:List Ty:= []
def ent:Ent Tryz.prog:=bE (D:=D) (tab:=tab) hE0 (ay _) [true] Tryz.func62 (by kernel_rfl) aC aS bS res (fun x y=>r x.1) (fun x y=>g (fun c z=>req c z) (fun x=>some (res x)) x.1) (fun _ _=>by kernel_rfl) (by
 intro x y
 show J _ (g chk (fun x=>(true,x)) x.1) (g (fun c z=>req c z) (fun x=>some (res x)) x.1)
 unfold g
 with_reducible repeat (first|(apply J.lt; intro _)|apply J.rq|apply J.bif|exact J.rt rfl))
end ku
namespace di
abbrev X:Type:=(List Bool)
def res (x:(List Bool)):Res:=⟨[.val ⟨.arr 256 .bool,x⟩],[],[]⟩
abbrev sh0:List (Nat×Sh):= [(1,.pb 500000 (.arr 4 (.int .u64)) []),(2,.pb 500001 (.arr 256 .bool) []),(3,.pb 500002 (.arr 256 .bool) []),(4,.p (.int .i64))]
abbrev bx0:List (Nat×Ty):= [(500000,.arr 4 (.int .u64)),(500001,.arr 256 .bool),(500002,.arr 256 .bool)]
abbrev aZ:List (Nat×Ty):= [(500000,.arr 4 (.int .u64)),(500001,.arr 256 .bool),(500002,.arr 256 .bool)]
abbrev aY:List (Nat×Sh):= []
abbrev bf:List (Nat×Ty):= []
abbrev bW:List (Nat×Ty):= []
abbrev X0:Type:=Unit×Unit×Unit×Int×Unit
abbrev Y0:Type:=(List Int)×(List Bool)×(List Bool)×Unit
abbrev U0:Type:=Unit
abbrev V0:Type:=Unit
def g0 {Z:Type} (rq:Bool→Z→Z) (kn:X0→Y0→Z) (ke:Nat→X0→Y0→Z) (kr:U0→V0→Z) (x:X0) (y:Y0):Z:=
lt (ilt x.2.2.2.1 256) fun v1114=>
bif v1114 then
lt (IntKind.i64.wrap (x.2.2.2.1.tdiv 64)) fun v1115=>
rq (ile (0:Int) v1115&&ilt v1115 4)<|
lt (y.1.getD v1115.toNat 0) fun (v1116:Int)=>
lt (x.2.2.2.1.tmod 64) fun (v1117:Int)=>
lt (v1116.fdiv (2^(min v1117.toNat 64))) fun (v1118:Int)=>
rq (!ilt v1117 0)<|
lt (fq .u64 (· &&& ·) v1118 (1:Int)) fun v1119=>
lt (v1119== 1) fun (v1120:Bool)=>
rq (ile (0:Int) x.2.2.2.1&&ilt x.2.2.2.1 256)<|
lt (y.2.2.1.set x.2.2.2.1.toNat v1120) fun (v1121:(List Bool))=>
lt (IntKind.i64.wrap (x.2.2.2.1+1)) fun v1122=>
kn ((),(),(),v1122,()) (y.1,y.2.1,v1121,())
else
ke 0 ((),(),(),x.2.2.2.1,()) (y.1,y.2.1,y.2.2.1,())
def fu0 (x:X0) (y:Y0):Nat:=((256:Int) - x.2.2.2.1).toNat+1
def l0 (x:X0) (y:Y0):Bool×Nat×X0×Y0×U0×V0:=rounds (fun rq kn ke kr x y=>g0 rq kn ke kr x y) () () (fu0 x y) x y
def g {Z:Type} (rq:Bool→Z→Z) (rt:X→Z) (a:(List Int)):Z:=
lt (List.replicate 256 false) fun (v1066:(List Bool))=>
lt (List.replicate 256 false) fun (v1067:(List Bool))=>
lt (List.replicate 256 false) fun (v1068:(List Bool))=>
lt (di.l0 ((),(),(),0,()) (a,v1066,v1067,())) fun w1123=>
rq w1123.1<|
rt w1123.2.2.2.1.2.2.1
def r (a:(List Int)):Bool×X:=g chk (fun x=>(true,x)) a
def D:aH:=Dof (P:=Tryz.prog) []
abbrev lf0:=dh (R:=Res) [1] (rounds (fun rq kn ke kr x y=>g0 rq kn ke kr x y) () ()) fu0
def tab:List (Nat×LE Res):= [(4,.typed (eG 22 sh0 bx0 aZ aY bf (lf0)))]
theorem bT:Nonempty (Told E0 D tab Tryz.f75.ntmps (aF (codeOf Tryz.f75) 0) 22 sh0 bx0 aZ aY bf lf0):=fE (sh:=sh0) (bx:=bx0) (ord:=aZ) (shR:=aY) (bxR:=bf) bW (by kernel_rfl) (by kernel_rfl) (by kernel_rfl) [1] _ _ _ @g0 (fun _ _ _ _ _=>by kernel_rfl) (by
  intro _ _ _ _ _ _ _ h i k x y
  simp only [g0]
  with_reducible repeat (first|(apply J.lt; intro _)|apply J.rq|apply J.bif|exact h _ _|exact i _ (by decide) _ _|exact k (by decide) _ _))
theorem bU:fI E0 D tab Tryz.f75.ntmps (codeOf Tryz.f75):=bP (bs:= [aF (codeOf Tryz.f75) 0]) (by kernel_rfl) (aD (bO (by kernel_rfl) (bT)) aO)
abbrev aS:List AS:= [.one (.val (.arr 4 (.int .u64)))]
abbrev bS:List Ty:= []
def ent:Ent Tryz.prog:=bE (D:=D) (tab:=tab) hE0 (ay _) [true] Tryz.func75 (by kernel_rfl) bU aS bS res (fun x y=>r x.1) (fun x y=>g (fun c z=>req c z) (fun x=>some (res x)) x.1) (fun _ _=>by kernel_rfl) (by
 intro x y
 show J _ (g chk (fun x=>(true,x)) x.1) (g (fun c z=>req c z) (fun x=>some (res x)) x.1)
 unfold g
 with_reducible repeat (first|(apply J.lt; intro _)|apply J.rq|apply J.bif|exact J.rt rfl))
end di
namespace bF
abbrev X:Type:=Int
def res (x:Int):Res:=⟨[.val ⟨.int .i64,x⟩],[],[]⟩
abbrev sh0:List (Nat×Sh):= [(2,.p (.int .i64)),(3,.pb 500000 (.arr 256 .bool) []),(4,.p (.int .i64))]
abbrev bx0:List (Nat×Ty):= [(500000,.arr 256 .bool)]
abbrev aZ:List (Nat×Ty):= [(500000,.arr 256 .bool)]
abbrev aY:List (Nat×Sh):= [(2,.p (.int .i64))]
abbrev bf:List (Nat×Ty):= []
abbrev bW:List (Nat×Ty):= []
abbrev X0:Type:=Int×Unit×Int×Unit
abbrev Y0:Type:=(List Bool)×Unit
abbrev U0:Type:=Int×Unit
abbrev V0:Type:=Unit
def g0 {Z:Type} (rq:Bool→Z→Z) (kn:X0→Y0→Z) (ke:Nat→X0→Y0→Z) (kr:U0→V0→Z) (x:X0) (y:Y0):Z:=
lt (ile 0 x.2.2.1) fun v1135=>
bif v1135 then
rq (ile (0:Int) x.2.2.1&&ilt x.2.2.1 256)<|
lt (y.1.getD x.2.2.1.toNat false) fun (v1136:Bool)=>
bif v1136 then
lt (IntKind.i64.wrap (x.2.2.1+1)) fun v1137=>
kr (v1137,()) ()
else
lt (IntKind.i64.wrap (x.2.2.1 - 1)) fun v1138=>
kn (x.1,(),v1138,()) (y.1,())
else
ke 0 (x.1,(),x.2.2.1,()) (y.1,())
def fu0 (x:X0) (y:Y0):Nat:=(x.2.2.1 - (0:Int)+1).toNat+1
def l0 (x:X0) (y:Y0):Bool×Nat×X0×Y0×U0×V0:=rounds (fun rq kn ke kr x y=>g0 rq kn ke kr x y) (0,()) () (fu0 x y) x y
def g {Z:Type} (rq:Bool→Z→Z) (rt:X→Z) (a:(List Int)):Z:=
lt (di.r a) fun w1124=>
rq w1124.1<|
lt (List.replicate 256 false) fun (v1125:(List Bool))=>
lt (bF.l0 (0,(),255,()) (w1124.2,())) fun w1139=>
rq w1139.1<|
bif Nat.beq w1139.2.1 0 then
rt w1139.2.2.2.2.1.1
else
rt 0
def r (a:(List Int)):Bool×X:=g chk (fun x=>(true,x)) a
def D:aH:=Dof (P:=Tryz.prog) [di.ent]
abbrev lf0:=dh (R:=Res) [0,1] (rounds (fun rq kn ke kr x y=>g0 rq kn ke kr x y) (0,()) ()) fu0
def tab:List (Nat×LE Res):= [(4,.typed (eG 16 sh0 bx0 aZ aY bf (lf0)))]
theorem bT:Nonempty (Told E0 D tab Tryz.f74.ntmps (aF (codeOf Tryz.f74) 0) 16 sh0 bx0 aZ aY bf lf0):=fE (sh:=sh0) (bx:=bx0) (ord:=aZ) (shR:=aY) (bxR:=bf) bW (by kernel_rfl) (by kernel_rfl) (by kernel_rfl) [0,1] _ _ _ @g0 (fun _ _ _ _ _=>by kernel_rfl) (by
  intro _ _ _ _ _ _ _ h i k x y
  simp only [g0]
  with_reducible repeat (first|(apply J.lt; intro _)|apply J.rq|apply J.bif|exact h _ _|exact i _ (by decide) _ _|exact k (by decide) _ _))
theorem bU:fI E0 D tab Tryz.f74.ntmps (codeOf Tryz.f74):=bP (bs:= [aF (codeOf Tryz.f74) 0]) (by kernel_rfl) (aD (bO (by kernel_rfl) (bT)) aO)
abbrev aS:List AS:= [.one (.val (.arr 4 (.int .u64)))]
abbrev bS:List Ty:= []
def ent:Ent Tryz.prog:=bE (D:=D) (tab:=tab) hE0 (ay _) [true] Tryz.func74 (by kernel_rfl) bU aS bS res (fun x y=>r x.1) (fun x y=>g (fun c z=>req c z) (fun x=>some (res x)) x.1) (fun _ _=>by kernel_rfl) (by
 intro x y
 show J _ (g chk (fun x=>(true,x)) x.1) (g (fun c z=>req c z) (fun x=>some (res x)) x.1)
 unfold g
 with_reducible repeat (first|(apply J.lt; intro _)|apply J.rq|apply J.bif|exact J.rt rfl))
end bF
namespace bM
abbrev X:Type:=Int×Bool
def res (x:Int×Bool):Res:=⟨[.val ⟨.int .i64,x.1⟩,.val ⟨.bool,x.2⟩],[],[]⟩
abbrev sh0:List (Nat×Sh):= [(2,.p (.int .i64)),(3,.p .bool),(4,.p (.int .i64)),(5,.pb 500000 (.arr 256 .bool) []),(6,.p (.int .i64))]
abbrev bx0:List (Nat×Ty):= [(500000,.arr 256 .bool)]
abbrev aZ:List (Nat×Ty):= [(500000,.arr 256 .bool)]
abbrev aY:List (Nat×Sh):= []
abbrev bf:List (Nat×Ty):= []
abbrev bW:List (Nat×Ty):= []
abbrev X0:Type:=Int×Bool×Int×Unit×Int×Unit
abbrev Y0:Type:=(List Bool)×Unit
abbrev U0:Type:=Unit
abbrev V0:Type:=Unit
def g0 {Z:Type} (rq:Bool→Z→Z) (kn:X0→Y0→Z) (ke:Nat→X0→Y0→Z) (kr:U0→V0→Z) (x:X0) (y:Y0):Z:=
lt (ilt x.2.2.2.2.1 63) fun v1153=>
bif v1153 then
rq (ile (0:Int) x.2.2.2.2.1&&ilt x.2.2.2.2.1 256)<|
lt (y.1.getD x.2.2.2.2.1.toNat false) fun (v1154:Bool)=>
bif v1154 then
lt (IntKind.i64.wrap ((1:Int)*2^(min x.2.2.2.2.1.toNat 64))) fun v1155=>
rq (!ilt x.2.2.2.2.1 0)<|
lt (fq .i64 (· ||| ·) x.2.2.1 v1155) fun v1156=>
lt (IntKind.i64.wrap (x.2.2.2.2.1+1)) fun v1157=>
kn (x.1,x.2.1,v1156,(),v1157,()) (y.1,())
else
lt (IntKind.i64.wrap (x.2.2.2.2.1+1)) fun v1158=>
kn (x.1,x.2.1,x.2.2.1,(),v1158,()) (y.1,())
else
ke 0 (x.1,x.2.1,x.2.2.1,(),x.2.2.2.2.1,()) (y.1,())
def fu0 (x:X0) (y:Y0):Nat:=((63:Int) - x.2.2.2.2.1).toNat+1
def l0 (x:X0) (y:Y0):Bool×Nat×X0×Y0×U0×V0:=rounds (fun rq kn ke kr x y=>g0 rq kn ke kr x y) () () (fu0 x y) x y
def g {Z:Type} (rq:Bool→Z→Z) (rt:X→Z) (a:(List Int)):Z:=
lt (bF.r a) fun w1140=>
rq w1140.1<|
lt (ilt 63 w1140.2) fun v1141=>
bif v1141 then
rt (0,false)
else
lt (di.r a) fun w1142=>
rq w1142.1<|
lt (List.replicate 256 false) fun (v1143:(List Bool))=>
lt (bM.l0 (0,false,0,(),0,()) (w1142.2,())) fun w1159=>
rq w1159.1<|
rt (w1159.2.2.1.2.2.1,true)
def r (a:(List Int)):Bool×X:=g chk (fun x=>(true,x)) a
def D:aH:=Dof (P:=Tryz.prog) [bF.ent,di.ent]
abbrev lf0:=dh (R:=Res) [1] (rounds (fun rq kn ke kr x y=>g0 rq kn ke kr x y) () ()) fu0
def tab:List (Nat×LE Res):= [(7,.typed (eG 24 sh0 bx0 aZ aY bf (lf0)))]
theorem bT:Nonempty (Told E0 D tab Tryz.f47.ntmps (aF (codeOf Tryz.f47) 0) 24 sh0 bx0 aZ aY bf lf0):=fE (sh:=sh0) (bx:=bx0) (ord:=aZ) (shR:=aY) (bxR:=bf) bW (by kernel_rfl) (by kernel_rfl) (by kernel_rfl) [1] _ _ _ @g0 (fun _ _ _ _ _=>by kernel_rfl) (by
  intro _ _ _ _ _ _ _ h i k x y
  simp only [g0]
  with_reducible repeat (first|(apply J.lt; intro _)|apply J.rq|apply J.bif|exact h _ _|exact i _ (by decide) _ _|exact k (by decide) _ _))
theorem bU:fI E0 D tab Tryz.f47.ntmps (codeOf Tryz.f47):=bP (bs:= [aF (codeOf Tryz.f47) 0]) (by kernel_rfl) (aD (bO (by kernel_rfl) (bT)) aO)
abbrev aS:List AS:= [.one (.val (.arr 4 (.int .u64)))]
abbrev bS:List Ty:= []
def ent:Ent Tryz.prog:=bE (D:=D) (tab:=tab) hE0 (ay _) [true,true] Tryz.func47 (by kernel_rfl) bU aS bS res (fun x y=>r x.1) (fun x y=>g (fun c z=>req c z) (fun x=>some (res x)) x.1) (fun _ _=>by kernel_rfl) (by
 intro x y
 show J _ (g chk (fun x=>(true,x)) x.1) (g (fun c z=>req c z) (fun x=>some (res x)) x.1)
 unfold g
 with_reducible repeat (first|(apply J.lt; intro _)|apply J.rq|apply J.bif|exact J.rt rfl))
end bM
namespace ko
abbrev X:Type:=(List Int)
def res (x:(List Int)):Res:=⟨[.val ⟨.arr 4 (.int .u64),x⟩],[],[]⟩
def g {Z:Type} (rq:Bool→Z→Z) (rt:X→Z) (p:jb):Z:=
lt (p.1.length:Int) fun (v1161:Int)=>
lt (ilt v1161 2) fun v1162=>
bif v1162 then
rt [0,0,0,0]
else
lt (p.1.length:Int) fun (v1163:Int)=>
lt (IntKind.i64.wrap (v1163 - 2)) fun v1164=>
lt (p.1.getD v1164.toNat ([0,0,0,0],(0,()))) fun (v1165:iU)=>
rq (ile (0:Int) v1164&&ilt v1164 (p.1.length:Int))<|
rt v1165.1
def r (p:jb):Bool×X:=g chk (fun x=>(true,x)) p
def D:aH:=Dof (P:=Tryz.prog) []
def tab:List (Nat×LE Res):= []
abbrev aS:List AS:= [.one (.val kQ)]
abbrev bS:List Ty:= []
def ent:Ent Tryz.prog:=bE (D:=D) (tab:=tab) hE0 (ay _) [true] Tryz.func63 (by kernel_rfl) aC aS bS res (fun x y=>r x.1) (fun x y=>g (fun c z=>req c z) (fun x=>some (res x)) x.1) (fun _ _=>by kernel_rfl) (by
 intro x y
 show J _ (g chk (fun x=>(true,x)) x.1) (g (fun c z=>req c z) (fun x=>some (res x)) x.1)
 unfold g
 with_reducible repeat (first|(apply J.lt; intro _)|apply J.rq|apply J.bif|exact J.rt rfl))
end ko
namespace fK
abbrev X:Type:=aN
def res (x:aN):Res:=⟨[.val ⟨aV,x⟩],[],[]⟩
def g {Z:Type} (rq:Bool→Z→Z) (rt:X→Z) (p:jb):Z:=
lt (ku.r p) fun w1065=>
rq w1065.1<|
lt (bM.r w1065.2) fun w1160=>
rq w1160.1<|
lt (ko.r p) fun w1166=>
rq w1166.1<|
lt (bM.r w1166.2) fun w1167=>
rq w1167.1<|
lt (bM.r p.2.1) fun w1168=>
rq w1168.1<|
rt (w1160.2.1,(w1167.2.1,(w1168.2.1,())))
def r (p:jb):Bool×X:=g chk (fun x=>(true,x)) p
def D:aH:=Dof (P:=Tryz.prog) [ku.ent,bM.ent,ko.ent]
def tab:List (Nat×LE Res):= []
abbrev aS:List AS:= [.one (.val kQ)]
abbrev bS:List Ty:= []
def ent:Ent Tryz.prog:=bE (D:=D) (tab:=tab) hE0 (ay _) [true] Tryz.func34 (by kernel_rfl) aC aS bS res (fun x y=>r x.1) (fun x y=>g (fun c z=>req c z) (fun x=>some (res x)) x.1) (fun _ _=>by kernel_rfl) (by
 intro x y
 show J _ (g chk (fun x=>(true,x)) x.1) (g (fun c z=>req c z) (fun x=>some (res x)) x.1)
 unfold g
 with_reducible repeat (first|(apply J.lt; intro _)|apply J.rq|apply J.bif|exact J.rt rfl))
end fK
namespace cO
abbrev X:Type:=(Option af)×aN×Bool
def res (x:(Option af)×aN×Bool):Res:=⟨[.val ⟨.ref ak,x.1⟩,.val ⟨aV,x.2.1⟩,.val ⟨.bool,x.2.2⟩],[],[]⟩
def brn (w:Bool×X):Brn Res:= .one w.1 (res w.2)
theorem cZ (w:Bool×X):(brn w).res=(w.1,res w.2):=rfl
def g {Z:Type} (rq:Bool→Z→Z) (rt:X→Z) (which:Int):Z:=
lt (gG.r which) fun w7=>
rq w7.1<|
lt (kH.r w7.2) fun w1059=>
bif Nat.beq w1059.2.1 0 then
rq w1059.1<|
lt (fK.r w7.2) fun w1169=>
rq w1169.1<|
lt (w1059.2.2.1.2== 0) fun (v1170:Bool)=>
rt (w1059.2.2.1.1,w1169.2,v1170)
else
rq w1059.1<|
lt (fK.r w7.2) fun w1171=>
rq w1171.1<|
lt (w1059.2.2.2.1== 0) fun (v1172:Bool)=>
rt ((some w1059.2.2.2.2),w1171.2,v1172)
def r (which:Int):Bool×X:=g chk (fun x=>(true,x)) which
def D:aH:=Dof (P:=Tryz.prog) [gG.ent,kH.ent,fK.ent]
def tab:List (Nat×LE Res):= []
theorem run (which:Int):gQ E0 [true,true,true] D (iI E0 D tab 9) Tryz.f10 (codeOf Tryz.f10) [.val ⟨.int .i64,which⟩] []=g (fun c z=>req c z) (fun x=>some (res x)) which:=by kernel_rfl
theorem rel (which:Int):J (fun w z=>z=some (res w)) (g chk (fun x=>(true,x)) which) (g (fun c z=>req c z) (fun x=>some (res x)) which):=by
 unfold g
 with_reducible repeat (first|(apply J.lt; intro _)|apply J.rq|apply J.bif|exact J.rt rfl)
theorem ok:nA Tryz.f10=true:=by kernel_rfl
abbrev aS:List AS:= [.one (.val (.int .i64))]
abbrev bS:List Ty:= []
def F (x:ASs aS) (y:Bs bS):Brn Res:=brn (r x.1)
theorem good (x:ASs aS) (y:Bs bS) (h:(F x y).res.1=true):Good Tryz.prog 10 (ASs.mk aS x) (Bs.mk bS y) (F x y).res.2:=
 fV hE0 (ay _) Tryz.func10 ok aC cZ (run x.1) (rel x.1) h
def ent:Ent Tryz.prog:=⟨10,shF aS bS F,bV good⟩
def ro:Int→Bool×X:=Classical.choose (⟨r,rfl⟩:∃ q:Int→Bool×X,q=r)
theorem gD:ro=r:=Classical.choose_spec (⟨r,rfl⟩:∃ q:Int→Bool×X,q=r)
def FO (x:ASs aS) (y:Bs bS):Brn Res:=brn (ro x.1)
theorem jQ:FO=F:=by unfold FO F; rw [gD]
def nO:Ent Tryz.prog:=⟨10,shF aS bS FO,bV (by rw [jQ]; exact good)⟩
end cO
namespace dS
abbrev X:Type:=(List Int)
def res (x:(List Int)):Res:=⟨[.val ⟨.arr 4 (.int .u64),x⟩],[],[]⟩
abbrev sh0:List (Nat×Sh):= [(1,.pb 500000 (.arr 256 .bool) []),(2,.pb 500001 (.arr 4 (.int .u64)) []),(3,.pb 500002 (.arr 4 (.int .u64)) []),(4,.p (.int .i64))]
abbrev bx0:List (Nat×Ty):= [(500000,.arr 256 .bool),(500001,.arr 4 (.int .u64)),(500002,.arr 4 (.int .u64))]
abbrev aZ:List (Nat×Ty):= [(500000,.arr 256 .bool),(500001,.arr 4 (.int .u64)),(500002,.arr 4 (.int .u64))]
abbrev aY:List (Nat×Sh):= []
abbrev bf:List (Nat×Ty):= []
abbrev bW:List (Nat×Ty):= []
abbrev X0:Type:=Unit×Unit×Unit×Int×Unit
abbrev Y0:Type:=(List Bool)×(List Int)×(List Int)×Unit
abbrev U0:Type:=Unit
abbrev V0:Type:=Unit
def g0 {Z:Type} (rq:Bool→Z→Z) (kn:X0→Y0→Z) (ke:Nat→X0→Y0→Z) (kr:U0→V0→Z) (x:X0) (y:Y0):Z:=
lt (ilt x.2.2.2.1 256) fun v1194=>
bif v1194 then
rq (ile (0:Int) x.2.2.2.1&&ilt x.2.2.2.1 256)<|
lt (y.1.getD x.2.2.2.1.toNat false) fun (v1195:Bool)=>
bif v1195 then
lt (IntKind.i64.wrap (x.2.2.2.1.tdiv 64)) fun v1196=>
lt (IntKind.i64.wrap (x.2.2.2.1.tdiv 64)) fun v1197=>
rq (ile (0:Int) v1197&&ilt v1197 4)<|
lt (y.2.2.1.getD v1197.toNat 0) fun (v1198:Int)=>
lt (x.2.2.2.1.tmod 64) fun (v1199:Int)=>
lt (IntKind.u64.wrap ((1:Int)*2^(min v1199.toNat 64))) fun v1200=>
rq (!ilt v1199 0)<|
lt (fq .u64 (· ||| ·) v1198 v1200) fun v1201=>
rq (ile (0:Int) v1196&&ilt v1196 4)<|
lt (y.2.2.1.set v1196.toNat v1201) fun (v1202:(List Int))=>
lt (IntKind.i64.wrap (x.2.2.2.1+1)) fun v1203=>
kn ((),(),(),v1203,()) (y.1,y.2.1,v1202,())
else
lt (IntKind.i64.wrap (x.2.2.2.1+1)) fun v1204=>
kn ((),(),(),v1204,()) (y.1,y.2.1,y.2.2.1,())
else
ke 0 ((),(),(),x.2.2.2.1,()) (y.1,y.2.1,y.2.2.1,())
def fu0 (x:X0) (y:Y0):Nat:=((256:Int) - x.2.2.2.1).toNat+1
def l0 (x:X0) (y:Y0):Bool×Nat×X0×Y0×U0×V0:=rounds (fun rq kn ke kr x y=>g0 rq kn ke kr x y) () () (fu0 x y) x y
def g {Z:Type} (rq:Bool→Z→Z) (rt:X→Z) (b:(List Bool)):Z:=
lt (dS.l0 ((),(),(),0,()) (b,[0,0,0,0],[0,0,0,0],())) fun w1205=>
rq w1205.1<|
rt w1205.2.2.2.1.2.2.1
def r (b:(List Bool)):Bool×X:=g chk (fun x=>(true,x)) b
def D:aH:=Dof (P:=Tryz.prog) []
abbrev lf0:=dh (R:=Res) [1] (rounds (fun rq kn ke kr x y=>g0 rq kn ke kr x y) () ()) fu0
def tab:List (Nat×LE Res):= [(4,.typed (eG 25 sh0 bx0 aZ aY bf (lf0)))]
theorem bT:Nonempty (Told E0 D tab Tryz.f72.ntmps (aF (codeOf Tryz.f72) 0) 25 sh0 bx0 aZ aY bf lf0):=fE (sh:=sh0) (bx:=bx0) (ord:=aZ) (shR:=aY) (bxR:=bf) bW (by kernel_rfl) (by kernel_rfl) (by kernel_rfl) [1] _ _ _ @g0 (fun _ _ _ _ _=>by kernel_rfl) (by
  intro _ _ _ _ _ _ _ h i k x y
  simp only [g0]
  with_reducible repeat (first|(apply J.lt; intro _)|apply J.rq|apply J.bif|exact h _ _|exact i _ (by decide) _ _|exact k (by decide) _ _))
theorem bU:fI E0 D tab Tryz.f72.ntmps (codeOf Tryz.f72):=bP (bs:= [aF (codeOf Tryz.f72) 0]) (by kernel_rfl) (aD (bO (by kernel_rfl) (bT)) aO)
abbrev aS:List AS:= [.one (.val (.arr 256 .bool))]
abbrev bS:List Ty:= []
def ent:Ent Tryz.prog:=bE (D:=D) (tab:=tab) hE0 (ay _) [true] Tryz.func72 (by kernel_rfl) bU aS bS res (fun x y=>r x.1) (fun x y=>g (fun c z=>req c z) (fun x=>some (res x)) x.1) (fun _ _=>by kernel_rfl) (by
 intro x y
 show J _ (g chk (fun x=>(true,x)) x.1) (g (fun c z=>req c z) (fun x=>some (res x)) x.1)
 unfold g
 with_reducible repeat (first|(apply J.lt; intro _)|apply J.rq|apply J.bif|exact J.rt rfl))
end dS
namespace aI
abbrev X:Type:=(List Int)
def res (x:(List Int)):Res:=⟨[.val ⟨.arr 4 (.int .u64),x⟩],[],[]⟩
abbrev sh0:List (Nat×Sh):= [(0,.p (.int .i64)),(2,.pb 500000 (.arr 4 (.int .u64)) []),(3,.pb 500001 (.arr 256 .bool) []),(4,.p (.int .i64))]
abbrev bx0:List (Nat×Ty):= [(500000,.arr 4 (.int .u64)),(500001,.arr 256 .bool)]
abbrev aZ:List (Nat×Ty):= [(500000,.arr 4 (.int .u64)),(500001,.arr 256 .bool)]
abbrev aY:List (Nat×Sh):= []
abbrev bf:List (Nat×Ty):= []
abbrev bW:List (Nat×Ty):= []
abbrev X0:Type:=Int×Unit×Unit×Int×Unit
abbrev Y0:Type:=(List Int)×(List Bool)×Unit
abbrev U0:Type:=Unit
abbrev V0:Type:=Unit
def g0 {Z:Type} (rq:Bool→Z→Z) (kn:X0→Y0→Z) (ke:Nat→X0→Y0→Z) (kr:U0→V0→Z) (x:X0) (y:Y0):Z:=
lt (ilt x.2.2.2.1 63) fun v1177=>
bif v1177 then
lt (ilt 0 x.1) fun v1178=>
bif v1178 then
lt (x.1.fdiv (2^(min x.2.2.2.1.toNat 64))) fun (v1179:Int)=>
rq (!ilt x.2.2.2.1 0)<|
lt (fq .i64 (· &&& ·) v1179 (1:Int)) fun v1180=>
lt (v1180== 1) fun (v1181:Bool)=>
rq (ile (0:Int) x.2.2.2.1&&ilt x.2.2.2.1 256)<|
lt (y.2.1.set x.2.2.2.1.toNat v1181) fun (v1182:(List Bool))=>
lt (IntKind.i64.wrap (x.2.2.2.1+1)) fun v1183=>
kn (x.1,(),(),v1183,()) (y.1,v1182,())
else
ke 0 (x.1,(),(),x.2.2.2.1,()) (y.1,y.2.1,())
else
ke 0 (x.1,(),(),x.2.2.2.1,()) (y.1,y.2.1,())
def fu0 (x:X0) (y:Y0):Nat:=((63:Int) - x.2.2.2.1).toNat+1
def l0 (x:X0) (y:Y0):Bool×Nat×X0×Y0×U0×V0:=rounds (fun rq kn ke kr x y=>g0 rq kn ke kr x y) () () (fu0 x y) x y
def g {Z:Type} (rq:Bool→Z→Z) (rt:X→Z) (n:Int):Z:=
lt (List.replicate 256 false) fun (v1174:(List Bool))=>
lt (List.replicate 256 false) fun (v1175:(List Bool))=>
lt (aI.l0 (n,(),(),0,()) ([0,0,0,0],v1174,())) fun w1184=>
rq w1184.1<|
lt (dS.r w1184.2.2.2.1.2.1) fun w1206=>
rq w1206.1<|
rt w1206.2
def r (n:Int):Bool×X:=g chk (fun x=>(true,x)) n
def D:aH:=Dof (P:=Tryz.prog) [dS.ent]
abbrev lf0:=dh (R:=Res) [1] (rounds (fun rq kn ke kr x y=>g0 rq kn ke kr x y) () ()) fu0
def tab:List (Nat×LE Res):= [(4,.typed (eG 23 sh0 bx0 aZ aY bf (lf0)))]
theorem bT:Nonempty (Told E0 D tab Tryz.f44.ntmps (aF (codeOf Tryz.f44) 0) 23 sh0 bx0 aZ aY bf lf0):=fE (sh:=sh0) (bx:=bx0) (ord:=aZ) (shR:=aY) (bxR:=bf) bW (by kernel_rfl) (by kernel_rfl) (by kernel_rfl) [1] _ _ _ @g0 (fun _ _ _ _ _=>by kernel_rfl) (by
  intro _ _ _ _ _ _ _ h i k x y
  simp only [g0]
  with_reducible repeat (first|(apply J.lt; intro _)|apply J.rq|apply J.bif|exact h _ _|exact i _ (by decide) _ _|exact k (by decide) _ _))
theorem bU:fI E0 D tab Tryz.f44.ntmps (codeOf Tryz.f44):=bP (bs:= [aF (codeOf Tryz.f44) 0]) (by kernel_rfl) (aD (bO (by kernel_rfl) (bT)) aO)
abbrev aS:List AS:= [.one (.val (.int .i64))]
abbrev bS:List Ty:= []
def ent:Ent Tryz.prog:=bE (D:=D) (tab:=tab) hE0 (ay _) [true] Tryz.func44 (by kernel_rfl) bU aS bS res (fun x y=>r x.1) (fun x y=>g (fun c z=>req c z) (fun x=>some (res x)) x.1) (fun _ _=>by kernel_rfl) (by
 intro x y
 show J _ (g chk (fun x=>(true,x)) x.1) (g (fun c z=>req c z) (fun x=>some (res x)) x.1)
 unfold g
 with_reducible repeat (first|(apply J.lt; intro _)|apply J.rq|apply J.bif|exact J.rt rfl))
end aI
namespace bN
abbrev X:Type:=(List Int)
def res (x:(List Int)):Res:=⟨[.val ⟨.arr 4 (.int .u64),x⟩],[],[]⟩
def brn (w:Bool×X):Brn Res:= .one w.1 (res w.2)
theorem cZ (w:Bool×X):(brn w).res=(w.1,res w.2):=rfl
def g {Z:Type} (rq:Bool→Z→Z) (rt:X→Z) (n:Int):Z:=
lt (aI.r n) fun w1207=>
rq w1207.1<|
rt w1207.2
def r (n:Int):Bool×X:=g chk (fun x=>(true,x)) n
def D:aH:=Dof (P:=Tryz.prog) [aI.ent]
def tab:List (Nat×LE Res):= []
theorem run (n:Int):gQ E0 [true] D (iI E0 D tab 9) Tryz.f17 (codeOf Tryz.f17) [.val ⟨.int .i64,n⟩] []=g (fun c z=>req c z) (fun x=>some (res x)) n:=by kernel_rfl
theorem rel (n:Int):J (fun w z=>z=some (res w)) (g chk (fun x=>(true,x)) n) (g (fun c z=>req c z) (fun x=>some (res x)) n):=by
 unfold g
 with_reducible repeat (first|(apply J.lt; intro _)|apply J.rq|apply J.bif|exact J.rt rfl)
theorem ok:nA Tryz.f17=true:=by kernel_rfl
abbrev aS:List AS:= [.one (.val (.int .i64))]
abbrev bS:List Ty:= []
def F (x:ASs aS) (y:Bs bS):Brn Res:=brn (r x.1)
theorem good (x:ASs aS) (y:Bs bS) (h:(F x y).res.1=true):Good Tryz.prog 17 (ASs.mk aS x) (Bs.mk bS y) (F x y).res.2:=
 fV hE0 (ay _) Tryz.func17 ok aC cZ (run x.1) (rel x.1) h
def ent:Ent Tryz.prog:=⟨17,shF aS bS F,bV good⟩
def ro:Int→Bool×X:=Classical.choose (⟨r,rfl⟩:∃ q:Int→Bool×X,q=r)
theorem gD:ro=r:=Classical.choose_spec (⟨r,rfl⟩:∃ q:Int→Bool×X,q=r)
def FO (x:ASs aS) (y:Bs bS):Brn Res:=brn (ro x.1)
theorem jQ:FO=F:=by unfold FO F; rw [gD]
def nO:Ent Tryz.prog:=⟨17,shF aS bS FO,bV (by rw [jQ]; exact good)⟩
end bN
namespace bB
abbrev X:Type:=(Option aM)
def res (x:(Option aM)):Res:=⟨[.val ⟨.ref eU,x⟩],[],[]⟩
def g {Z:Type} (rq:Bool→Z→Z) (rt:X→Z) (gx:(Option af)):Z:=
bif gx.isNone then
rt none
else
lt (gx.getD ((none,(none,())),([0,0,0,0],()))) fun (v1210:af)=>
rq gx.isSome<|
rt v1210.1.2.1
def r (gx:(Option af)):Bool×X:=g chk (fun x=>(true,x)) gx
def D:aH:=Dof (P:=Tryz.prog) []
def tab:List (Nat×LE Res):= []
abbrev aS:List AS:= [.one (.val (.ref ak))]
abbrev bS:List Ty:= []
def ent:Ent Tryz.prog:=bE (D:=D) (tab:=tab) hE0 (ay _) [true] Tryz.func36 (by kernel_rfl) aC aS bS res (fun x y=>r x.1) (fun x y=>g (fun c z=>req c z) (fun x=>some (res x)) x.1) (fun _ _=>by kernel_rfl) (by
 intro x y
 show J _ (g chk (fun x=>(true,x)) x.1) (g (fun c z=>req c z) (fun x=>some (res x)) x.1)
 unfold g
 with_reducible repeat (first|(apply J.lt; intro _)|apply J.rq|apply J.bif|exact J.rt rfl))
end bB
namespace mM
abbrev X:Type:=(List Int)
def res (x:(List Int)):Res:=⟨[.val ⟨.arr 4 (.int .u64),x⟩],[],[]⟩
def g {Z:Type} (rq:Bool→Z→Z) (rt:X→Z) (rx:(Option aM)):Z:=
lt (dU.r rx) fun w1220=>
rq w1220.1<|
lt (!w1220.2) fun (v1221:Bool)=>
bif v1221 then
rt [0,0,0,0]
else
lt (rx.getD dX) fun (v1222:aM)=>
rq rx.isSome<|
rt v1222.1
def r (rx:(Option aM)):Bool×X:=g chk (fun x=>(true,x)) rx
def D:aH:=Dof (P:=Tryz.prog) [dU.ent]
def tab:List (Nat×LE Res):= []
abbrev aS:List AS:= [.one (.val (.ref eU))]
abbrev bS:List Ty:= []
def ent:Ent Tryz.prog:=bE (D:=D) (tab:=tab) hE0 (ay _) [true] Tryz.func99 (by kernel_rfl) aC aS bS res (fun x y=>r x.1) (fun x y=>g (fun c z=>req c z) (fun x=>some (res x)) x.1) (fun _ _=>by kernel_rfl) (by
 intro x y
 show J _ (g chk (fun x=>(true,x)) x.1) (g (fun c z=>req c z) (fun x=>some (res x)) x.1)
 unfold g
 with_reducible repeat (first|(apply J.lt; intro _)|apply J.rq|apply J.bif|exact J.rt rfl))
end mM
namespace gu
abbrev X:Type:=(List Int)
def res (x:(List Int)):Res:=⟨[.val ⟨.arr 4 (.int .u64),x⟩],[],[]⟩
def g {Z:Type} (rq:Bool→Z→Z) (rt:X→Z) (gx:(Option af)):Z:=
lt (bB.r gx) fun w1219=>
rq w1219.1<|
lt (mM.r w1219.2) fun w1223=>
rq w1223.1<|
rt w1223.2
def r (gx:(Option af)):Bool×X:=g chk (fun x=>(true,x)) gx
def D:aH:=Dof (P:=Tryz.prog) [bB.ent,mM.ent]
def tab:List (Nat×LE Res):= []
abbrev aS:List AS:= [.one (.val (.ref ak))]
abbrev bS:List Ty:= []
def ent:Ent Tryz.prog:=bE (D:=D) (tab:=tab) hE0 (ay _) [true] Tryz.func70 (by kernel_rfl) aC aS bS res (fun x y=>r x.1) (fun x y=>g (fun c z=>req c z) (fun x=>some (res x)) x.1) (fun _ _=>by kernel_rfl) (by
 intro x y
 show J _ (g chk (fun x=>(true,x)) x.1) (g (fun c z=>req c z) (fun x=>some (res x)) x.1)
 unfold g
 with_reducible repeat (first|(apply J.lt; intro _)|apply J.rq|apply J.bif|exact J.rt rfl))
end gu
namespace mF
abbrev X:Type:=(List Int)×Int
def res (x:(List Int)×Int):Res:=⟨[.val ⟨.arr 4 (.int .u64),x.1⟩,.val ⟨.int .i64,x.2⟩],[],[]⟩
def g {Z:Type} (rq:Bool→Z→Z) (rt:X→Z) (a:(List Int)) (b:(List Int)) (m:(List Int)):Z:=
lt (qV.r a b) fun w1225=>
rq w1225.1<|
lt (dN.r w1225.2.2) fun w1226=>
rq w1226.1<|
lt (gT.r w1225.2.1 w1226.2 m) fun w1227=>
rq w1227.1<|
rt (w1227.2.1,w1227.2.2)
def r (a:(List Int)) (b:(List Int)) (m:(List Int)):Bool×X:=g chk (fun x=>(true,x)) a b m
def D:aH:=Dof (P:=Tryz.prog) [qV.ent,dN.ent,gT.ent]
def tab:List (Nat×LE Res):= []
abbrev aS:List AS:= [.one (.val (.arr 4 (.int .u64))),.one (.val (.arr 4 (.int .u64))),.one (.val (.arr 4 (.int .u64)))]
abbrev bS:List Ty:= []
def ent:Ent Tryz.prog:=bE (D:=D) (tab:=tab) hE0 (ay _) [true,true] Tryz.func98 (by kernel_rfl) aC aS bS res (fun x y=>r x.1 x.2.1 x.2.2.1) (fun x y=>g (fun c z=>req c z) (fun x=>some (res x)) x.1 x.2.1 x.2.2.1) (fun _ _=>by kernel_rfl) (by
 intro x y
 show J _ (g chk (fun x=>(true,x)) x.1 x.2.1 x.2.2.1) (g (fun c z=>req c z) (fun x=>some (res x)) x.1 x.2.1 x.2.2.1)
 unfold g
 with_reducible repeat (first|(apply J.lt; intro _)|apply J.rq|apply J.bif|exact J.rt rfl))
end mF
namespace iq
abbrev X:Type:=(List Int)
def res (x:(List Int)):Res:=⟨[.val ⟨.arr 4 (.int .u64),x⟩],[],[]⟩
def g {Z:Type} (rq:Bool→Z→Z) (rt:X→Z) (gx:(Option af)) (a:(List Int)) (b:(List Int)):Z:=
lt (gu.r gx) fun w1224=>
rq w1224.1<|
lt (mF.r a b w1224.2) fun w1228=>
rq w1228.1<|
rt w1228.2.1
def r (gx:(Option af)) (a:(List Int)) (b:(List Int)):Bool×X:=g chk (fun x=>(true,x)) gx a b
def D:aH:=Dof (P:=Tryz.prog) [gu.ent,mF.ent]
def tab:List (Nat×LE Res):= []
abbrev aS:List AS:= [.one (.val (.ref ak)),.one (.val (.arr 4 (.int .u64))),.one (.val (.arr 4 (.int .u64)))]
abbrev bS:List Ty:= []
def ent:Ent Tryz.prog:=bE (D:=D) (tab:=tab) hE0 (ay _) [true] Tryz.func65 (by kernel_rfl) aC aS bS res (fun x y=>r x.1 x.2.1 x.2.2.1) (fun x y=>g (fun c z=>req c z) (fun x=>some (res x)) x.1 x.2.1 x.2.2.1) (fun _ _=>by kernel_rfl) (by
 intro x y
 show J _ (g chk (fun x=>(true,x)) x.1 x.2.1 x.2.2.1) (g (fun c z=>req c z) (fun x=>some (res x)) x.1 x.2.1 x.2.2.1)
 unfold g
 with_reducible repeat (first|(apply J.lt; intro _)|apply J.rq|apply J.bif|exact J.rt rfl))
end iq
namespace mJ
abbrev X:Type:=Bool
def res (x:Bool):Res:=⟨[.val ⟨.bool,x⟩],[],[]⟩
def g {Z:Type} (rq:Bool→Z→Z) (rt:X→Z) (a:(List Int)):Z:=
lt (ieq (a.getD 0 0) 0&&(ieq (a.getD 1 0) 0&&(ieq (a.getD 2 0) 0&&(ieq (a.getD 3 0) 0&&true)))) fun v1245=>
rt v1245
def r (a:(List Int)):Bool×X:=g chk (fun x=>(true,x)) a
def D:aH:=Dof (P:=Tryz.prog) []
def tab:List (Nat×LE Res):= []
abbrev aS:List AS:= [.one (.val (.arr 4 (.int .u64)))]
abbrev bS:List Ty:= []
def ent:Ent Tryz.prog:=bE (D:=D) (tab:=tab) hE0 (ay _) [true] Tryz.func66 (by kernel_rfl) aC aS bS res (fun x y=>r x.1) (fun x y=>g (fun c z=>req c z) (fun x=>some (res x)) x.1) (fun _ _=>by kernel_rfl) (by
 intro x y
 show J _ (g chk (fun x=>(true,x)) x.1) (g (fun c z=>req c z) (fun x=>some (res x)) x.1)
 unfold g
 with_reducible repeat (first|(apply J.lt; intro _)|apply J.rq|apply J.bif|exact J.rt rfl))
end mJ
namespace eZ
abbrev X:Type:=Nat×(Unit)×(Nat×Nat×(Bool×List (List Int)))
def rP (x:Unit):Res:=⟨[.nil],[],[]⟩
def rO (x:Nat×Nat×(Bool×List (List Int))):Res:=⟨[.vs 1000000 (.arr 4 (.int .u64)) [] x.1 x.2.1],[],[⟨.dyn (.arr 4 (.int .u64)),x.2.2⟩]⟩
def res (x:X):Res:=bif Nat.beq x.1 0 then rP x.2.1 else (rO x.2.2)
def brn (w:Bool×X):Brn Res:= .ite (Nat.beq w.2.1 0) (.one w.1 (rP w.2.2.1)) (.one w.1 (rO w.2.2.2))
theorem cZ (w:Bool×X):(brn w).res=(w.1,res w.2):=by
 cases h0:Nat.beq w.2.1 0 with
 |true=>simp only [brn,res,Brn.res,h0,cond_true,cond_false]
 |false=>
  simp only [brn,res,Brn.res,h0,cond_true,cond_false]
abbrev sh1:List (Nat×Sh):= [(4,.nil),(5,.vs 501000 (.arr 4 (.int .u64)) [])]
abbrev bx1:List (Nat×Ty):= [(501000,.dyn (.arr 4 (.int .u64)))]
abbrev nI:List (Nat×Ty):= [(501000,.dyn (.arr 4 (.int .u64)))]
abbrev nG:List (Nat×Sh):= []
abbrev nS:List (Nat×Ty):= []
abbrev rU:List (Nat×Ty):= []
abbrev X1:Type:=Unit×(Nat×Nat)×Unit
abbrev Y1:Type:=(Bool×List (List Int))×Unit
abbrev U1:Type:=Unit
abbrev V1:Type:=Unit
def g1 {Z:Type} (rq:Bool→Z→Z) (kn:X1→Y1→Z) (ke:Nat→X1→Y1→Z) (kr:U1→V1→Z) (x:X1) (y:Y1):Z:=
lt ((x.2.1.2:Nat):Int) fun (v1264:Int)=>
lt (ilt 0 v1264) fun v1265=>
bif v1265 then
lt ((x.2.1.2:Nat):Int) fun (v1266:Int)=>
lt (IntKind.i64.wrap (v1266 - 1)) fun v1267=>
lt ((x.2.1.1+v1267.toNat)) fun (n1268:Nat)=>
rq (ile (0:Int) v1267&&ilt v1267 ((x.2.1.2:Nat):Int))<|
lt (y.1.2.getD n1268 [0,0,0,0]) fun (v1269:(List Int))=>
lt (mJ.r v1269) fun w1270=>
rq w1270.1<|
bif w1270.2 then
lt ((x.2.1.2:Nat):Int) fun (v1271:Int)=>
lt (IntKind.i64.wrap (v1271 - 1)) fun v1272=>
rq (ile (0:Int) v1272&&ile v1272 ((x.2.1.2:Nat):Int))<|
kn ((),(x.2.1.1,v1272.toNat),()) (y.1,())
else
ke 2 ((),(x.2.1.1,x.2.1.2),()) (y.1,())
else
ke 2 ((),(x.2.1.1,x.2.1.2),()) (y.1,())
def fu1 (x:X1) (y:Y1):Nat:=(((x.2.1.2:Nat):Int) - (0:Int)).toNat+1
def l1 (x:X1) (y:Y1):Bool×Nat×X1×Y1×U1×V1:=rounds (fun rq kn ke kr x y=>g1 rq kn ke kr x y) () () (fu1 x y) x y
abbrev sh0:List (Nat×Sh):= [(0,.p (.ref ak)),(4,.nil),(5,.va 500000 (.arr 4 (.int .u64))),(11,.p (.sl (.arr 4 (.int .u64)))),(12,.p (.int .i64)),(13,.p (.int .i64))]
abbrev bx0:List (Nat×Ty):= [(500000,.dyn (.arr 4 (.int .u64)))]
abbrev aZ:List (Nat×Ty):= [(500000,.dyn (.arr 4 (.int .u64)))]
abbrev aY:List (Nat×Sh):= []
abbrev bf:List (Nat×Ty):= []
abbrev bW:List (Nat×Ty):= []
abbrev X0:Type:=(Option af)×Unit×Unit×(List (List Int))×Int×Int×Unit
abbrev Y0:Type:=(Bool×List (List Int))×Unit
abbrev U0:Type:=Unit
abbrev V0:Type:=Unit
def g0 {Z:Type} (rq:Bool→Z→Z) (kn:X0→Y0→Z) (ke:Nat→X0→Y0→Z) (kr:U0→V0→Z) (x:X0) (y:Y0):Z:=
lt (ilt x.2.2.2.2.2.1 x.2.2.2.2.1) fun v1257=>
bif v1257 then
lt (x.2.2.2.1.getD x.2.2.2.2.2.1.toNat [0,0,0,0]) fun (v1258:(List Int))=>
rq (ile (0:Int) x.2.2.2.2.2.1&&ilt x.2.2.2.2.2.1 (x.2.2.2.1.length:Int))<|
lt (iq.r x.1 v1258 [0,0,0,0]) fun w1259=>
rq w1259.1<|
lt (y.1.1&&false) fun (v1260:Bool)=>
lt (y.1.2++ [w1259.2]) fun (v1261:(List (List Int)))=>
rq (nle ((2*(y.1.2.length+1)+512)*32) 70368744177664)<|
lt (IntKind.i64.wrap (x.2.2.2.2.2.1+1)) fun v1262=>
kn (x.1,(),(),x.2.2.2.1,x.2.2.2.2.1,v1262,()) ((v1260,v1261),())
else
ke 0 (x.1,(),(),x.2.2.2.1,x.2.2.2.2.1,x.2.2.2.2.2.1,()) (y.1,())
def fu0 (x:X0) (y:Y0):Nat:=(x.2.2.2.2.1 - x.2.2.2.2.2.1).toNat+1
def l0 (x:X0) (y:Y0):Bool×Nat×X0×Y0×U0×V0:=rounds (fun rq kn ke kr x y=>g0 rq kn ke kr x y) () () (fu0 x y) x y
def g {Z:Type} (rq:Bool→Z→Z) (rt:X→Z) (gx:(Option af)) (f:(List (List Int))):Z:=
lt (bB.r gx) fun w1255=>
rq w1255.1<|
bif w1255.2.isNone then
rt (0,(),(0,0,(true,[])))
else
lt (f.length:Int) fun (v1256:Int)=>
lt (eZ.l0 (gx,(),(),f,v1256,0,()) ((true,[]),())) fun w1263=>
rq w1263.1<|
lt (eZ.l1 ((),(0,w1263.2.2.2.1.1.2.length),()) (w1263.2.2.2.1.1,())) fun w1273=>
rq w1273.1<|
rt (1,(),(w1273.2.2.1.2.1.1,w1273.2.2.1.2.1.2,w1273.2.2.2.1.1))
def r (gx:(Option af)) (f:(List (List Int))):Bool×X:=g chk (fun x=>(true,x)) gx f
def D:aH:=Dof (P:=Tryz.prog) [bB.ent,iq.ent,mJ.ent]
abbrev lf1:=dh (R:=Res) [3] (rounds (fun rq kn ke kr x y=>g1 rq kn ke kr x y) () ()) fu1
abbrev lf0:=dh (R:=Res) [1] (rounds (fun rq kn ke kr x y=>g0 rq kn ke kr x y) () ()) fu0
def tab:List (Nat×LE Res):= [(10,.typed (eG 43 sh1 bx1 nI nG nS (lf1))),(6,.typed (eG 43 sh0 bx0 aZ aY bf (lf0)))]
theorem run (gx:(Option af)) (f:(List (List Int))):gQ E0 [false] D (iI E0 D tab 9) Tryz.f37 (codeOf Tryz.f37) [.val ⟨.ref ak,gx⟩,.val ⟨.sl (.arr 4 (.int .u64)),f⟩] []=g (fun c z=>req c z) (fun x=>some (res x)) gx f:=by kernel_rfl
theorem rel (gx:(Option af)) (f:(List (List Int))):J (fun w z=>z=some (res w)) (g chk (fun x=>(true,x)) gx f) (g (fun c z=>req c z) (fun x=>some (res x)) gx f):=by
 unfold g
 with_reducible repeat (first|(apply J.lt; intro _)|apply J.rq|apply J.bif|exact J.rt rfl)
theorem rD:Nonempty (Told E0 D tab Tryz.f37.ntmps (aF (codeOf Tryz.f37) 1) 43 sh1 bx1 nI nG nS lf1):=fE (sh:=sh1) (bx:=bx1) (ord:=nI) (shR:=nG) (bxR:=nS) rU (by kernel_rfl) (by kernel_rfl) (by kernel_rfl) [3] _ _ _ @g1 (fun _ _ _ _ _=>by kernel_rfl) (by
  intro _ _ _ _ _ _ _ h i k x y
  simp only [g1]
  with_reducible repeat (first|(apply J.lt; intro _)|apply J.rq|apply J.bif|exact h _ _|exact i _ (by decide) _ _|exact k (by decide) _ _))
theorem bT:Nonempty (Told E0 D tab Tryz.f37.ntmps (aF (codeOf Tryz.f37) 0) 43 sh0 bx0 aZ aY bf lf0):=fE (sh:=sh0) (bx:=bx0) (ord:=aZ) (shR:=aY) (bxR:=bf) bW (by kernel_rfl) (by kernel_rfl) (by kernel_rfl) [1] _ _ _ @g0 (fun _ _ _ _ _=>by kernel_rfl) (by
  intro _ _ _ _ _ _ _ h i k x y
  simp only [g0]
  with_reducible repeat (first|(apply J.lt; intro _)|apply J.rq|apply J.bif|exact h _ _|exact i _ (by decide) _ _|exact k (by decide) _ _))
theorem bU:fI E0 D tab Tryz.f37.ntmps (codeOf Tryz.f37):=bP (bs:= [aF (codeOf Tryz.f37) 0,aF (codeOf Tryz.f37) 1]) (by kernel_rfl) (aD (bO (by kernel_rfl) (bT)) (aD (bO (by kernel_rfl) (rD)) aO))
theorem ok:nA Tryz.f37=true:=by kernel_rfl
abbrev aS:List AS:= [.one (.val (.ref ak)),.one (.val (.sl (.arr 4 (.int .u64))))]
abbrev bS:List Ty:= []
def F (x:ASs aS) (y:Bs bS):Brn Res:=brn (r x.1 x.2.1)
theorem good (x:ASs aS) (y:Bs bS) (h:(F x y).res.1=true):Good Tryz.prog 37 (ASs.mk aS x) (Bs.mk bS y) (F x y).res.2:=
 fV hE0 (ay _) Tryz.func37 ok bU cZ (run x.1 x.2.1) (rel x.1 x.2.1) h
def ent:Ent Tryz.prog:=⟨37,shF aS bS F,bV good⟩
end eZ
namespace om
abbrev X:Type:=(List Int)
def res (x:(List Int)):Res:=⟨[.val ⟨.arr 4 (.int .u64),x⟩],[],[]⟩
def g {Z:Type} (rq:Bool→Z→Z) (rt:X→Z) (gx:(Option af)):Z:=
bif gx.isNone then
rt [0,0,0,0]
else
lt (gx.getD ((none,(none,())),([0,0,0,0],()))) fun (v1279:af)=>
rq gx.isSome<|
rt v1279.2.1
def r (gx:(Option af)):Bool×X:=g chk (fun x=>(true,x)) gx
def D:aH:=Dof (P:=Tryz.prog) []
def tab:List (Nat×LE Res):= []
abbrev aS:List AS:= [.one (.val (.ref ak))]
abbrev bS:List Ty:= []
def ent:Ent Tryz.prog:=bE (D:=D) (tab:=tab) hE0 (ay _) [true] Tryz.func67 (by kernel_rfl) aC aS bS res (fun x y=>r x.1) (fun x y=>g (fun c z=>req c z) (fun x=>some (res x)) x.1) (fun _ _=>by kernel_rfl) (by
 intro x y
 show J _ (g chk (fun x=>(true,x)) x.1) (g (fun c z=>req c z) (fun x=>some (res x)) x.1)
 unfold g
 with_reducible repeat (first|(apply J.lt; intro _)|apply J.rq|apply J.bif|exact J.rt rfl))
end om
namespace fB
abbrev X:Type:=(Option aM)
def res (x:(Option aM)):Res:=⟨[.val ⟨.ref eU,x⟩],[],[]⟩
def g {Z:Type} (rq:Bool→Z→Z) (rt:X→Z) (gx:(Option af)):Z:=
bif gx.isNone then
rt none
else
lt (gx.getD ((none,(none,())),([0,0,0,0],()))) fun (v1281:af)=>
rq gx.isSome<|
rt v1281.1.1
def r (gx:(Option af)):Bool×X:=g chk (fun x=>(true,x)) gx
def D:aH:=Dof (P:=Tryz.prog) []
def tab:List (Nat×LE Res):= []
abbrev aS:List AS:= [.one (.val (.ref ak))]
abbrev bS:List Ty:= []
def ent:Ent Tryz.prog:=bE (D:=D) (tab:=tab) hE0 (ay _) [true] Tryz.func69 (by kernel_rfl) aC aS bS res (fun x y=>r x.1) (fun x y=>g (fun c z=>req c z) (fun x=>some (res x)) x.1) (fun _ _=>by kernel_rfl) (by
 intro x y
 show J _ (g chk (fun x=>(true,x)) x.1) (g (fun c z=>req c z) (fun x=>some (res x)) x.1)
 unfold g
 with_reducible repeat (first|(apply J.lt; intro _)|apply J.rq|apply J.bif|exact J.rt rfl))
end fB
namespace mI
abbrev X:Type:=(List Int)
def res (x:(List Int)):Res:=⟨[.val ⟨.arr 4 (.int .u64),x⟩],[],[]⟩
def g {Z:Type} (rq:Bool→Z→Z) (rt:X→Z) (gx:(Option af)) (a:(List Int)) (e:(List Int)):Z:=
lt (fB.r gx) fun w1282=>
rq w1282.1<|
lt (eY.r w1282.2 a e) fun w1283=>
rq w1283.1<|
rt w1283.2
def r (gx:(Option af)) (a:(List Int)) (e:(List Int)):Bool×X:=g chk (fun x=>(true,x)) gx a e
def D:aH:=Dof (P:=Tryz.prog) [fB.ent,eY.ent]
def tab:List (Nat×LE Res):= []
abbrev aS:List AS:= [.one (.val (.ref ak)),.one (.val (.arr 4 (.int .u64))),.one (.val (.arr 4 (.int .u64)))]
abbrev bS:List Ty:= []
def ent:Ent Tryz.prog:=bE (D:=D) (tab:=tab) hE0 (ay _) [true] Tryz.func51 (by kernel_rfl) aC aS bS res (fun x y=>r x.1 x.2.1 x.2.2.1) (fun x y=>g (fun c z=>req c z) (fun x=>some (res x)) x.1 x.2.1 x.2.2.1) (fun _ _=>by kernel_rfl) (by
 intro x y
 show J _ (g chk (fun x=>(true,x)) x.1 x.2.1 x.2.2.1) (g (fun c z=>req c z) (fun x=>some (res x)) x.1 x.2.1 x.2.2.1)
 unfold g
 with_reducible repeat (first|(apply J.lt; intro _)|apply J.rq|apply J.bif|exact J.rt rfl))
end mI
namespace kZ
abbrev X:Type:=(List Int)
def res (x:(List Int)):Res:=⟨[.val ⟨.arr 4 (.int .u64),x⟩],[],[]⟩
def g {Z:Type} (rq:Bool→Z→Z) (rt:X→Z) (gx:(Option af)) (e:(List Int)):Z:=
lt (om.r gx) fun w1280=>
rq w1280.1<|
lt (mI.r gx w1280.2 e) fun w1284=>
rq w1284.1<|
rt w1284.2
def r (gx:(Option af)) (e:(List Int)):Bool×X:=g chk (fun x=>(true,x)) gx e
def D:aH:=Dof (P:=Tryz.prog) [om.ent,mI.ent]
def tab:List (Nat×LE Res):= []
abbrev aS:List AS:= [.one (.val (.ref ak)),.one (.val (.arr 4 (.int .u64)))]
abbrev bS:List Ty:= []
def ent:Ent Tryz.prog:=bE (D:=D) (tab:=tab) hE0 (ay _) [true] Tryz.func38 (by kernel_rfl) aC aS bS res (fun x y=>r x.1 x.2.1) (fun x y=>g (fun c z=>req c z) (fun x=>some (res x)) x.1 x.2.1) (fun _ _=>by kernel_rfl) (by
 intro x y
 show J _ (g chk (fun x=>(true,x)) x.1 x.2.1) (g (fun c z=>req c z) (fun x=>some (res x)) x.1 x.2.1)
 unfold g
 with_reducible repeat (first|(apply J.lt; intro _)|apply J.rq|apply J.bif|exact J.rt rfl))
end kZ
end Go.Own
