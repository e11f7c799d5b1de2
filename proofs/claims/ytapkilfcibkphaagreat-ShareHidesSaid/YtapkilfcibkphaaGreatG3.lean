/- What functions compute, printed by wip/gen/gen2.py. -/
import Derived.Test.YtapkilfcibkphaaGreatG2
set_option linter.unusedVariables false
set_option linter.unusedSimpArgs false
set_option maxRecDepth 100000
noncomputable section
namespace Go.Own
open Go.Proofs Go.Proofs.YtapkilfcibkphaaGreat
namespace fO
abbrev X:Type:=Int
def res (x:Int):Res:=⟨[.val ⟨.int .i64,x⟩],[],[]⟩
abbrev sh0:List (Nat×Sh):= [(0,.p (.sl kU)),(2,.p (.int .i64)),(5,.p (.int .i64))]
abbrev bx0:List (Nat×Ty):= []
abbrev aZ:List (Nat×Ty):= []
abbrev aY:List (Nat×Sh):= [(2,.p (.int .i64))]
abbrev bf:List (Nat×Ty):= []
abbrev bU:List (Nat×Ty):= []
abbrev X0:Type:=(List jb)×Int×Int×Unit
abbrev Y0:Type:=Unit
abbrev U0:Type:=Int×Unit
abbrev V0:Type:=Unit
def g0 {Z:Type} (rq:Bool→Z→Z) (kn:X0→Y0→Z) (ke:Nat→X0→Y0→Z) (kr:U0→V0→Z) (x:X0) (y:Y0):Z:=
lt (x.1.length:Int) fun (v41:Int)=>
lt (ilt x.2.2.1 v41) fun v42=>
bif v42 then
lt (x.1.getD x.2.2.1.toNat ([0,0,0,0],(0,()))) fun (v43:jb)=>
rq (ile (0:Int) x.2.2.1&&ilt x.2.2.1 (x.1.length:Int))<|
lt (IntKind.i64.wrap (x.2.2.1 - 1)) fun v44=>
lt (x.1.getD v44.toNat ([0,0,0,0],(0,()))) fun (v45:jb)=>
rq (ile (0:Int) v44&&ilt v44 (x.1.length:Int))<|
lt (x.1.getD x.2.2.1.toNat ([0,0,0,0],(0,()))) fun (v46:jb)=>
rq (ile (0:Int) x.2.2.1&&ilt x.2.2.1 (x.1.length:Int))<|
lt (nO.r v43.1 v45.1 v46.2.1) fun w1031=>
rq w1031.1<|
lt (!w1031.2) fun (v1032:Bool)=>
bif v1032 then
kr (4,()) ()
else
lt (IntKind.i64.wrap (x.2.2.1+1)) fun v1033=>
kn (x.1,x.2.1,v1033,()) ()
else
ke 0 (x.1,x.2.1,x.2.2.1,()) ()
def fu0 (x:X0) (y:Y0):Nat:=((x.1.length:Int) - x.2.2.1).toNat+1
def l0 (x:X0) (y:Y0):Bool×Nat×X0×Y0×U0×V0:=rounds (fun rq kn ke kr x y=>g0 rq kn ke kr x y) (0,()) () (fu0 x y) x y
def g {Z:Type} (rq:Bool→Z→Z) (rt:X→Z) (l:(List jb)):Z:=
lt (l.length:Int) fun (v10:Int)=>
lt (ilt v10 1) fun v11=>
bif v11 then
rt 4
else
lt (l.length:Int) fun (v12:Int)=>
lt (ilt 8 v12) fun v13=>
bif v13 then
rt 4
else
lt (l.getD 0 ([0,0,0,0],(0,()))) fun (v14:jb)=>
rq (ilt (0:Int) (l.length:Int))<|
lt (qM.r v14.1) fun w21=>
rq w21.1<|
lt (!w21.2.2) fun (v22:Bool)=>
bif v22 then
rt 4
else
lt (oD.r w21.2.1) fun w35=>
rq w35.1<|
lt (!w35.2) fun (v36:Bool)=>
bif v36 then
rt 4
else
lt (l.getD 0 ([0,0,0,0],(0,()))) fun (v37:jb)=>
rq (ilt (0:Int) (l.length:Int))<|
lt (v37.2.1 != 0) fun (v38:Bool)=>
bif v38 then
rt 4
else
lt (fO.l0 (l,0,1,()) ()) fun w1034=>
rq w1034.1<|
bif Nat.beq w1034.2.1 0 then
rt w1034.2.2.2.2.1.1
else
rt 0
def r (l:(List jb)):Bool×X:=g chk (fun x=>(true,x)) l
def D:aI:=Dof (P:=Tryz.prog) [qM.ent,oD.ent,nO.ent]
abbrev lf0:=bY (R:=Res) [0,1] (rounds (fun rq kn ke kr x y=>g0 rq kn ke kr x y) (0,()) ()) fu0
def tab:List (Nat×LE Res):= [(8,.typed (eB 60 sh0 bx0 aZ aY bf (lf0)))]
theorem bR:Nonempty (Told E0 D tab Tryz.f41.ntmps (aF (codeOf Tryz.f41) 0) 60 sh0 bx0 aZ aY bf lf0):=eX (sh:=sh0) (bx:=bx0) (ord:=aZ) (shR:=aY) (bxR:=bf) bU (by kernel_rfl) (by kernel_rfl) (by kernel_rfl) [0,1] _ _ _ @g0 (fun _ _ _ _ _=>by kernel_rfl) (by
  intro _ _ _ _ _ _ _ h i k x y
  simp only [g0]
  with_reducible repeat (first|(apply J.lt; intro _)|apply J.rq|apply J.bif|exact h _ _|exact i _ (by decide) _ _|exact k (by decide) _ _))
theorem bT:fF E0 D tab Tryz.f41.ntmps (codeOf Tryz.f41):=bN (bs:= [aF (codeOf Tryz.f41) 0]) (by kernel_rfl) (aD (bI (by kernel_rfl) (bR)) aL)
abbrev aS:List AS:= [.one (.val (.sl kU))]
abbrev bS:List Ty:= []
def ent:Ent Tryz.prog:=bO (D:=D) (tab:=tab) hE0 (ay _) [true] Tryz.func41 (by kernel_rfl) bT aS bS res (fun x y=>r x.1) (fun x y=>g (fun c z=>req c z) (fun x=>some (res x)) x.1) (fun _ _=>by kernel_rfl) (by
 intro x y
 show J _ (g chk (fun x=>(true,x)) x.1) (g (fun c z=>req c z) (fun x=>some (res x)) x.1)
 unfold g
 with_reducible repeat (first|(apply J.lt; intro _)|apply J.rq|apply J.bif|exact J.rt rfl))
end fO
namespace kW
abbrev X:Type:=Bool
def res (x:Bool):Res:=⟨[.val ⟨.bool,x⟩],[],[]⟩
def g {Z:Type} (rq:Bool→Z→Z) (rt:X→Z) (rx:(Option aJ)) (a:(List Int)):Z:=
lt (dW.r rx) fun w1050=>
rq w1050.1<|
bif w1050.2 then
lt (rx.getD eu) fun (v1051:aJ)=>
rq rx.isSome<|
lt (jD.r a v1051.1) fun w1052=>
rq w1052.1<|
lt (ilt w1052.2 0) fun v1053=>
rt v1053
else
rt false
def r (rx:(Option aJ)) (a:(List Int)):Bool×X:=g chk (fun x=>(true,x)) rx a
def D:aI:=Dof (P:=Tryz.prog) [dW.ent,jD.ent]
def tab:List (Nat×LE Res):= []
abbrev aS:List AS:= [.one (.val (.ref eY)),.one (.val (.arr 4 (.int .u64)))]
abbrev bS:List Ty:= []
def ent:Ent Tryz.prog:=bO (D:=D) (tab:=tab) hE0 (ay _) [true] Tryz.func44 (by kernel_rfl) aG aS bS res (fun x y=>r x.1 x.2.1) (fun x y=>g (fun c z=>req c z) (fun x=>some (res x)) x.1 x.2.1) (fun _ _=>by kernel_rfl) (by
 intro x y
 show J _ (g chk (fun x=>(true,x)) x.1 x.2.1) (g (fun c z=>req c z) (fun x=>some (res x)) x.1 x.2.1)
 unfold g
 with_reducible repeat (first|(apply J.lt; intro _)|apply J.rq|apply J.bif|exact J.rt rfl))
end kW
namespace mE
abbrev X:Type:=Nat×((Option aj)×Int)×(Int×aj)
def pR (x:(Option aj)×Int):Res:=⟨[.val ⟨.ref au,x.1⟩,.val ⟨.int .i64,x.2⟩],[],[]⟩
def pQ (x:Int×aj):Res:=⟨[.pb 1000000 au [],.val ⟨.int .i64,x.1⟩],[],[⟨au,x.2⟩]⟩
def res (x:X):Res:=bif Nat.beq x.1 0 then pR x.2.1 else (pQ x.2.2)
def brn (w:Bool×X):Brn Res:= .ite (Nat.beq w.2.1 0) (.one w.1 (pR w.2.2.1)) (.one w.1 (pQ w.2.2.2))
theorem dA (w:Bool×X):(brn w).res=(w.1,res w.2):=by
 cases h0:Nat.beq w.2.1 0 with
 |true=>simp only [brn,res,Brn.res,h0,cond_true,cond_false]
 |false=>
  simp only [brn,res,Brn.res,h0,cond_true,cond_false]
def g {Z:Type} (rq:Bool→Z→Z) (rt:X→Z) (p:kS):Z:=
lt (p.1.length:Int) fun (v8:Int)=>
lt (ilt v8 2) fun v9=>
bif v9 then
rt (0,(none,4),(0,((none,(none,())),([0,0,0,0],()))))
else
lt (fO.r p.1) fun w1035=>
rq w1035.1<|
lt (w1035.2 != 0) fun (v1036:Bool)=>
bif v1036 then
rt (0,(none,4),(0,((none,(none,())),([0,0,0,0],()))))
else
lt (IntKind.i64.wrap (v8 - 1)) fun v1037=>
lt (p.1.getD v1037.toNat ([0,0,0,0],(0,()))) fun (v1038:jb)=>
rq (ile (0:Int) v1037&&ilt v1037 (p.1.length:Int))<|
lt (ni.r v1038.1) fun w1039=>
rq w1039.1<|
lt (w1039.2.2 != 0) fun (v1040:Bool)=>
bif v1040 then
rt (0,(none,4),(0,((none,(none,())),([0,0,0,0],()))))
else
lt (IntKind.i64.wrap (v8 - 2)) fun v1041=>
lt (p.1.getD v1041.toNat ([0,0,0,0],(0,()))) fun (v1042:jb)=>
rq (ile (0:Int) v1041&&ilt v1041 (p.1.length:Int))<|
lt (ni.r v1042.1) fun w1043=>
rq w1043.1<|
lt (w1043.2.2 != 0) fun (v1044:Bool)=>
bif v1044 then
rt (0,(none,4),(0,((none,(none,())),([0,0,0,0],()))))
else
lt (qL.r v1042.1) fun w1045=>
rq w1045.1<|
lt (ilt w1045.2 10) fun v1046=>
bif v1046 then
rt (0,(none,4),(0,((none,(none,())),([0,0,0,0],()))))
else
lt (ieq (p.2.1.getD 0 0) 0&&(ieq (p.2.1.getD 1 0) 0&&(ieq (p.2.1.getD 2 0) 0&&(ieq (p.2.1.getD 3 0) 0&&true)))) fun v1047=>
bif v1047 then
rt (0,(none,4),(0,((none,(none,())),([0,0,0,0],()))))
else
lt (dY.r 1) fun w1048=>
rq w1048.1<|
lt (ieq (p.2.1.getD 0 0) (w1048.2.getD 0 0)&&(ieq (p.2.1.getD 1 0) (w1048.2.getD 1 0)&&(ieq (p.2.1.getD 2 0) (w1048.2.getD 2 0)&&(ieq (p.2.1.getD 3 0) (w1048.2.getD 3 0)&&true)))) fun v1049=>
bif v1049 then
rt (0,(none,4),(0,((none,(none,())),([0,0,0,0],()))))
else
lt (kW.r w1039.2.1 p.2.1) fun w1054=>
rq w1054.1<|
lt (!w1054.2) fun (v1055:Bool)=>
bif v1055 then
rt (0,(none,4),(0,((none,(none,())),([0,0,0,0],()))))
else
lt (gD.r w1039.2.1 p.2.1 v1042.1) fun w1056=>
rq w1056.1<|
lt (dY.r 1) fun w1057=>
rq w1057.1<|
lt (!(ieq (w1056.2.getD 0 0) (w1057.2.getD 0 0)&&(ieq (w1056.2.getD 1 0) (w1057.2.getD 1 0)&&(ieq (w1056.2.getD 2 0) (w1057.2.getD 2 0)&&(ieq (w1056.2.getD 3 0) (w1057.2.getD 3 0)&&true))))) fun (v1058:Bool)=>
bif v1058 then
rt (0,(none,4),(0,((none,(none,())),([0,0,0,0],()))))
else
rt (1,(none,0),(0,((w1039.2.1,(w1043.2.1,())),(p.2.1,()))))
def r (p:kS):Bool×X:=g chk (fun x=>(true,x)) p
def D:aI:=Dof (P:=Tryz.prog) [fO.ent,ni.ent,qL.ent,dY.ent,kW.ent,gD.ent]
def tab:List (Nat×LE Res):= []
theorem run (p:kS):iD E0 [false,true] D (iR E0 D tab 9) Tryz.f22 (codeOf Tryz.f22) [.val ⟨nY,p⟩] []=g (fun c z=>req c z) (fun x=>some (res x)) p:=by kernel_rfl
theorem rel (p:kS):J (fun w z=>z=some (res w)) (g chk (fun x=>(true,x)) p) (g (fun c z=>req c z) (fun x=>some (res x)) p):=by
 unfold g
 with_reducible repeat (first|(apply J.lt; intro _)|apply J.rq|apply J.bif|exact J.rt rfl)
theorem ok:oq Tryz.f22=true:=by kernel_rfl
abbrev aS:List AS:= [.one (.val nY)]
abbrev bS:List Ty:= []
def F (x:ASs aS) (y:Bs bS):Brn Res:=brn (r x.1)
theorem good (x:ASs aS) (y:Bs bS) (h:(F x y).res.1=true):Good Tryz.prog 22 (ASs.mk aS x) (Bs.mk bS y) (F x y).res.2:=
 fZ hE0 (ay _) Tryz.func22 ok aG dA (run x.1) (rel x.1) h
def ent:Ent Tryz.prog:=⟨22,shF aS bS F,bX good⟩
end mE
namespace jq
abbrev X:Type:=(List Int)
def res (x:(List Int)):Res:=⟨[.val ⟨.arr 4 (.int .u64),x⟩],[],[]⟩
def g {Z:Type} (rq:Bool→Z→Z) (rt:X→Z) (p:kS):Z:=
lt (p.1.length:Int) fun (v1060:Int)=>
lt (ilt v1060 2) fun v1061=>
bif v1061 then
rt [0,0,0,0]
else
lt (p.1.length:Int) fun (v1062:Int)=>
lt (IntKind.i64.wrap (v1062 - 2)) fun v1063=>
lt (p.1.getD v1063.toNat ([0,0,0,0],(0,()))) fun (v1064:jb)=>
rq (ile (0:Int) v1063&&ilt v1063 (p.1.length:Int))<|
rt v1064.1
def r (p:kS):Bool×X:=g chk (fun x=>(true,x)) p
def D:aI:=Dof (P:=Tryz.prog) []
def tab:List (Nat×LE Res):= []
abbrev aS:List AS:= [.one (.val nY)]
abbrev bS:List Ty:= []
def ent:Ent Tryz.prog:=bO (D:=D) (tab:=tab) hE0 (ay _) [true] Tryz.func23 (by kernel_rfl) aG aS bS res (fun x y=>r x.1) (fun x y=>g (fun c z=>req c z) (fun x=>some (res x)) x.1) (fun _ _=>by kernel_rfl) (by
 intro x y
 show J _ (g chk (fun x=>(true,x)) x.1) (g (fun c z=>req c z) (fun x=>some (res x)) x.1)
 unfold g
 with_reducible repeat (first|(apply J.lt; intro _)|apply J.rq|apply J.bif|exact J.rt rfl))
end jq
namespace cO
abbrev X:Type:=(List Bool)
def res (x:(List Bool)):Res:=⟨[.val ⟨.arr 256 .bool,x⟩],[],[]⟩
abbrev sh0:List (Nat×Sh):= [(1,.pb 500000 (.arr 4 (.int .u64)) []),(2,.pb 500001 (.arr 256 .bool) []),(3,.pb 500002 (.arr 256 .bool) []),(4,.p (.int .i64))]
abbrev bx0:List (Nat×Ty):= [(500000,.arr 4 (.int .u64)),(500001,.arr 256 .bool),(500002,.arr 256 .bool)]
abbrev aZ:List (Nat×Ty):= [(500000,.arr 4 (.int .u64)),(500001,.arr 256 .bool),(500002,.arr 256 .bool)]
abbrev aY:List (Nat×Sh):= []
abbrev bf:List (Nat×Ty):= []
abbrev bU:List (Nat×Ty):= []
abbrev X0:Type:=Unit×Unit×Unit×Int×Unit
abbrev Y0:Type:=(List Int)×(List Bool)×(List Bool)×Unit
abbrev U0:Type:=Unit
abbrev V0:Type:=Unit
def g0 {Z:Type} (rq:Bool→Z→Z) (kn:X0→Y0→Z) (ke:Nat→X0→Y0→Z) (kr:U0→V0→Z) (x:X0) (y:Y0):Z:=
lt (ilt x.2.2.2.1 256) fun v1114=>
bif v1114 then
lt (IntKind.i64.wrap (x.2.2.2.1.tdiv 64)) fun v1115=>
rq (ile (0:Int) v1115&&ilt v1115 4)<|
lt (y.1.getD v1115.toNat 0) fun (v1116:Int)=>
lt (x.2.2.2.1.tmod 64) fun (v1117:Int)=>
lt (v1116.fdiv (2^(min v1117.toNat 64))) fun (v1118:Int)=>
rq (!ilt v1117 0)<|
lt (fw .u64 (· &&& ·) v1118 (1:Int)) fun v1119=>
lt (v1119== 1) fun (v1120:Bool)=>
rq (ile (0:Int) x.2.2.2.1&&ilt x.2.2.2.1 256)<|
lt (y.2.2.1.set x.2.2.2.1.toNat v1120) fun (v1121:(List Bool))=>
lt (IntKind.i64.wrap (x.2.2.2.1+1)) fun v1122=>
kn ((),(),(),v1122,()) (y.1,y.2.1,v1121,())
else
ke 0 ((),(),(),x.2.2.2.1,()) (y.1,y.2.1,y.2.2.1,())
def fu0 (x:X0) (y:Y0):Nat:=((256:Int) - x.2.2.2.1).toNat+1
def l0 (x:X0) (y:Y0):Bool×Nat×X0×Y0×U0×V0:=rounds (fun rq kn ke kr x y=>g0 rq kn ke kr x y) () () (fu0 x y) x y
def g {Z:Type} (rq:Bool→Z→Z) (rt:X→Z) (a:(List Int)):Z:=
lt (List.replicate 256 false) fun (v1066:(List Bool))=>
lt (List.replicate 256 false) fun (v1067:(List Bool))=>
lt (List.replicate 256 false) fun (v1068:(List Bool))=>
lt (cO.l0 ((),(),(),0,()) (a,v1066,v1067,())) fun w1123=>
rq w1123.1<|
rt w1123.2.2.2.1.2.2.1
def r (a:(List Int)):Bool×X:=g chk (fun x=>(true,x)) a
def D:aI:=Dof (P:=Tryz.prog) []
abbrev lf0:=bY (R:=Res) [1] (rounds (fun rq kn ke kr x y=>g0 rq kn ke kr x y) () ()) fu0
def tab:List (Nat×LE Res):= [(4,.typed (eB 22 sh0 bx0 aZ aY bf (lf0)))]
theorem bR:Nonempty (Told E0 D tab Tryz.f30.ntmps (aF (codeOf Tryz.f30) 0) 22 sh0 bx0 aZ aY bf lf0):=eX (sh:=sh0) (bx:=bx0) (ord:=aZ) (shR:=aY) (bxR:=bf) bU (by kernel_rfl) (by kernel_rfl) (by kernel_rfl) [1] _ _ _ @g0 (fun _ _ _ _ _=>by kernel_rfl) (by
  intro _ _ _ _ _ _ _ h i k x y
  simp only [g0]
  with_reducible repeat (first|(apply J.lt; intro _)|apply J.rq|apply J.bif|exact h _ _|exact i _ (by decide) _ _|exact k (by decide) _ _))
theorem bT:fF E0 D tab Tryz.f30.ntmps (codeOf Tryz.f30):=bN (bs:= [aF (codeOf Tryz.f30) 0]) (by kernel_rfl) (aD (bI (by kernel_rfl) (bR)) aL)
abbrev aS:List AS:= [.one (.val (.arr 4 (.int .u64)))]
abbrev bS:List Ty:= []
def ent:Ent Tryz.prog:=bO (D:=D) (tab:=tab) hE0 (ay _) [true] Tryz.func30 (by kernel_rfl) bT aS bS res (fun x y=>r x.1) (fun x y=>g (fun c z=>req c z) (fun x=>some (res x)) x.1) (fun _ _=>by kernel_rfl) (by
 intro x y
 show J _ (g chk (fun x=>(true,x)) x.1) (g (fun c z=>req c z) (fun x=>some (res x)) x.1)
 unfold g
 with_reducible repeat (first|(apply J.lt; intro _)|apply J.rq|apply J.bif|exact J.rt rfl))
end cO
namespace bB
abbrev X:Type:=Int
def res (x:Int):Res:=⟨[.val ⟨.int .i64,x⟩],[],[]⟩
abbrev sh0:List (Nat×Sh):= [(2,.p (.int .i64)),(3,.pb 500000 (.arr 256 .bool) []),(4,.p (.int .i64))]
abbrev bx0:List (Nat×Ty):= [(500000,.arr 256 .bool)]
abbrev aZ:List (Nat×Ty):= [(500000,.arr 256 .bool)]
abbrev aY:List (Nat×Sh):= [(2,.p (.int .i64))]
abbrev bf:List (Nat×Ty):= []
abbrev bU:List (Nat×Ty):= []
abbrev X0:Type:=Int×Unit×Int×Unit
abbrev Y0:Type:=(List Bool)×Unit
abbrev U0:Type:=Int×Unit
abbrev V0:Type:=Unit
def g0 {Z:Type} (rq:Bool→Z→Z) (kn:X0→Y0→Z) (ke:Nat→X0→Y0→Z) (kr:U0→V0→Z) (x:X0) (y:Y0):Z:=
lt (ile 0 x.2.2.1) fun v1135=>
bif v1135 then
rq (ile (0:Int) x.2.2.1&&ilt x.2.2.1 256)<|
lt (y.1.getD x.2.2.1.toNat false) fun (v1136:Bool)=>
bif v1136 then
lt (IntKind.i64.wrap (x.2.2.1+1)) fun v1137=>
kr (v1137,()) ()
else
lt (IntKind.i64.wrap (x.2.2.1 - 1)) fun v1138=>
kn (x.1,(),v1138,()) (y.1,())
else
ke 0 (x.1,(),x.2.2.1,()) (y.1,())
def fu0 (x:X0) (y:Y0):Nat:=(x.2.2.1 - (0:Int)+1).toNat+1
def l0 (x:X0) (y:Y0):Bool×Nat×X0×Y0×U0×V0:=rounds (fun rq kn ke kr x y=>g0 rq kn ke kr x y) (0,()) () (fu0 x y) x y
def g {Z:Type} (rq:Bool→Z→Z) (rt:X→Z) (a:(List Int)):Z:=
lt (cO.r a) fun w1124=>
rq w1124.1<|
lt (List.replicate 256 false) fun (v1125:(List Bool))=>
lt (bB.l0 (0,(),255,()) (w1124.2,())) fun w1139=>
rq w1139.1<|
bif Nat.beq w1139.2.1 0 then
rt w1139.2.2.2.2.1.1
else
rt 0
def r (a:(List Int)):Bool×X:=g chk (fun x=>(true,x)) a
def D:aI:=Dof (P:=Tryz.prog) [cO.ent]
abbrev lf0:=bY (R:=Res) [0,1] (rounds (fun rq kn ke kr x y=>g0 rq kn ke kr x y) (0,()) ()) fu0
def tab:List (Nat×LE Res):= [(4,.typed (eB 16 sh0 bx0 aZ aY bf (lf0)))]
theorem bR:Nonempty (Told E0 D tab Tryz.f29.ntmps (aF (codeOf Tryz.f29) 0) 16 sh0 bx0 aZ aY bf lf0):=eX (sh:=sh0) (bx:=bx0) (ord:=aZ) (shR:=aY) (bxR:=bf) bU (by kernel_rfl) (by kernel_rfl) (by kernel_rfl) [0,1] _ _ _ @g0 (fun _ _ _ _ _=>by kernel_rfl) (by
  intro _ _ _ _ _ _ _ h i k x y
  simp only [g0]
  with_reducible repeat (first|(apply J.lt; intro _)|apply J.rq|apply J.bif|exact h _ _|exact i _ (by decide) _ _|exact k (by decide) _ _))
theorem bT:fF E0 D tab Tryz.f29.ntmps (codeOf Tryz.f29):=bN (bs:= [aF (codeOf Tryz.f29) 0]) (by kernel_rfl) (aD (bI (by kernel_rfl) (bR)) aL)
abbrev aS:List AS:= [.one (.val (.arr 4 (.int .u64)))]
abbrev bS:List Ty:= []
def ent:Ent Tryz.prog:=bO (D:=D) (tab:=tab) hE0 (ay _) [true] Tryz.func29 (by kernel_rfl) bT aS bS res (fun x y=>r x.1) (fun x y=>g (fun c z=>req c z) (fun x=>some (res x)) x.1) (fun _ _=>by kernel_rfl) (by
 intro x y
 show J _ (g chk (fun x=>(true,x)) x.1) (g (fun c z=>req c z) (fun x=>some (res x)) x.1)
 unfold g
 with_reducible repeat (first|(apply J.lt; intro _)|apply J.rq|apply J.bif|exact J.rt rfl))
end bB
namespace bM
abbrev X:Type:=Int×Bool
def res (x:Int×Bool):Res:=⟨[.val ⟨.int .i64,x.1⟩,.val ⟨.bool,x.2⟩],[],[]⟩
abbrev sh0:List (Nat×Sh):= [(2,.p (.int .i64)),(3,.p .bool),(4,.p (.int .i64)),(5,.pb 500000 (.arr 256 .bool) []),(6,.p (.int .i64))]
abbrev bx0:List (Nat×Ty):= [(500000,.arr 256 .bool)]
abbrev aZ:List (Nat×Ty):= [(500000,.arr 256 .bool)]
abbrev aY:List (Nat×Sh):= []
abbrev bf:List (Nat×Ty):= []
abbrev bU:List (Nat×Ty):= []
abbrev X0:Type:=Int×Bool×Int×Unit×Int×Unit
abbrev Y0:Type:=(List Bool)×Unit
abbrev U0:Type:=Unit
abbrev V0:Type:=Unit
def g0 {Z:Type} (rq:Bool→Z→Z) (kn:X0→Y0→Z) (ke:Nat→X0→Y0→Z) (kr:U0→V0→Z) (x:X0) (y:Y0):Z:=
lt (ilt x.2.2.2.2.1 63) fun v1153=>
bif v1153 then
rq (ile (0:Int) x.2.2.2.2.1&&ilt x.2.2.2.2.1 256)<|
lt (y.1.getD x.2.2.2.2.1.toNat false) fun (v1154:Bool)=>
bif v1154 then
lt (IntKind.i64.wrap ((1:Int)*2^(min x.2.2.2.2.1.toNat 64))) fun v1155=>
rq (!ilt x.2.2.2.2.1 0)<|
lt (fw .i64 (· ||| ·) x.2.2.1 v1155) fun v1156=>
lt (IntKind.i64.wrap (x.2.2.2.2.1+1)) fun v1157=>
kn (x.1,x.2.1,v1156,(),v1157,()) (y.1,())
else
lt (IntKind.i64.wrap (x.2.2.2.2.1+1)) fun v1158=>
kn (x.1,x.2.1,x.2.2.1,(),v1158,()) (y.1,())
else
ke 0 (x.1,x.2.1,x.2.2.1,(),x.2.2.2.2.1,()) (y.1,())
def fu0 (x:X0) (y:Y0):Nat:=((63:Int) - x.2.2.2.2.1).toNat+1
def l0 (x:X0) (y:Y0):Bool×Nat×X0×Y0×U0×V0:=rounds (fun rq kn ke kr x y=>g0 rq kn ke kr x y) () () (fu0 x y) x y
def g {Z:Type} (rq:Bool→Z→Z) (rt:X→Z) (a:(List Int)):Z:=
lt (bB.r a) fun w1140=>
rq w1140.1<|
lt (ilt 63 w1140.2) fun v1141=>
bif v1141 then
rt (0,false)
else
lt (cO.r a) fun w1142=>
rq w1142.1<|
lt (List.replicate 256 false) fun (v1143:(List Bool))=>
lt (bM.l0 (0,false,0,(),0,()) (w1142.2,())) fun w1159=>
rq w1159.1<|
rt (w1159.2.2.1.2.2.1,true)
def r (a:(List Int)):Bool×X:=g chk (fun x=>(true,x)) a
def D:aI:=Dof (P:=Tryz.prog) [bB.ent,cO.ent]
abbrev lf0:=bY (R:=Res) [1] (rounds (fun rq kn ke kr x y=>g0 rq kn ke kr x y) () ()) fu0
def tab:List (Nat×LE Res):= [(7,.typed (eB 24 sh0 bx0 aZ aY bf (lf0)))]
theorem bR:Nonempty (Told E0 D tab Tryz.f9.ntmps (aF (codeOf Tryz.f9) 0) 24 sh0 bx0 aZ aY bf lf0):=eX (sh:=sh0) (bx:=bx0) (ord:=aZ) (shR:=aY) (bxR:=bf) bU (by kernel_rfl) (by kernel_rfl) (by kernel_rfl) [1] _ _ _ @g0 (fun _ _ _ _ _=>by kernel_rfl) (by
  intro _ _ _ _ _ _ _ h i k x y
  simp only [g0]
  with_reducible repeat (first|(apply J.lt; intro _)|apply J.rq|apply J.bif|exact h _ _|exact i _ (by decide) _ _|exact k (by decide) _ _))
theorem bT:fF E0 D tab Tryz.f9.ntmps (codeOf Tryz.f9):=bN (bs:= [aF (codeOf Tryz.f9) 0]) (by kernel_rfl) (aD (bI (by kernel_rfl) (bR)) aL)
abbrev aS:List AS:= [.one (.val (.arr 4 (.int .u64)))]
abbrev bS:List Ty:= []
def ent:Ent Tryz.prog:=bO (D:=D) (tab:=tab) hE0 (ay _) [false,true] Tryz.func9 (by kernel_rfl) bT aS bS res (fun x y=>r x.1) (fun x y=>g (fun c z=>req c z) (fun x=>some (res x)) x.1) (fun _ _=>by kernel_rfl) (by
 intro x y
 show J _ (g chk (fun x=>(true,x)) x.1) (g (fun c z=>req c z) (fun x=>some (res x)) x.1)
 unfold g
 with_reducible repeat (first|(apply J.lt; intro _)|apply J.rq|apply J.bif|exact J.rt rfl))
end bM
namespace dK
abbrev X:Type:=(Option aj)×Int×Bool
def res (x:(Option aj)×Int×Bool):Res:=⟨[.val ⟨.ref au,x.1⟩,.val ⟨.int .i64,x.2.1⟩,.val ⟨.bool,x.2.2⟩],[],[]⟩
def brn (w:Bool×X):Brn Res:= .one w.1 (res w.2)
theorem dA (w:Bool×X):(brn w).res=(w.1,res w.2):=rfl
def g {Z:Type} (rq:Bool→Z→Z) (rt:X→Z) (which:Int):Z:=
lt (gG.r which) fun w7=>
rq w7.1<|
lt (mE.r w7.2) fun w1059=>
bif Nat.beq w1059.2.1 0 then
rq w1059.1<|
lt (jq.r w7.2) fun w1065=>
rq w1065.1<|
lt (bM.r w1065.2) fun w1160=>
rq w1160.1<|
lt (w1059.2.2.1.2== 0) fun (v1161:Bool)=>
rt (w1059.2.2.1.1,w1160.2.1,v1161)
else
rq w1059.1<|
lt (jq.r w7.2) fun w1162=>
rq w1162.1<|
lt (bM.r w1162.2) fun w1163=>
rq w1163.1<|
lt (w1059.2.2.2.1== 0) fun (v1164:Bool)=>
rt ((some w1059.2.2.2.2),w1163.2.1,v1164)
def r (which:Int):Bool×X:=g chk (fun x=>(true,x)) which
def D:aI:=Dof (P:=Tryz.prog) [gG.ent,mE.ent,jq.ent,bM.ent]
def tab:List (Nat×LE Res):= []
theorem run (which:Int):iD E0 [true,true,true] D (iR E0 D tab 9) Tryz.f6 (codeOf Tryz.f6) [.val ⟨.int .i64,which⟩] []=g (fun c z=>req c z) (fun x=>some (res x)) which:=by kernel_rfl
theorem rel (which:Int):J (fun w z=>z=some (res w)) (g chk (fun x=>(true,x)) which) (g (fun c z=>req c z) (fun x=>some (res x)) which):=by
 unfold g
 with_reducible repeat (first|(apply J.lt; intro _)|apply J.rq|apply J.bif|exact J.rt rfl)
theorem ok:oq Tryz.f6=true:=by kernel_rfl
abbrev aS:List AS:= [.one (.val (.int .i64))]
abbrev bS:List Ty:= []
def F (x:ASs aS) (y:Bs bS):Brn Res:=brn (r x.1)
theorem good (x:ASs aS) (y:Bs bS) (h:(F x y).res.1=true):Good Tryz.prog 6 (ASs.mk aS x) (Bs.mk bS y) (F x y).res.2:=
 fZ hE0 (ay _) Tryz.func6 ok aG dA (run x.1) (rel x.1) h
def ent:Ent Tryz.prog:=⟨6,shF aS bS F,bX good⟩
def ro:Int→Bool×X:=Classical.choose (⟨r,rfl⟩:∃ q:Int→Bool×X,q=r)
theorem gI:ro=r:=Classical.choose_spec (⟨r,rfl⟩:∃ q:Int→Bool×X,q=r)
def FO (x:ASs aS) (y:Bs bS):Brn Res:=brn (ro x.1)
theorem kR:FO=F:=by unfold FO F; rw [gI]
def oC:Ent Tryz.prog:=⟨6,shF aS bS FO,bX (by rw [kR]; exact good)⟩
end dK
namespace dV
abbrev X:Type:=(List Int)
def res (x:(List Int)):Res:=⟨[.val ⟨.arr 4 (.int .u64),x⟩],[],[]⟩
abbrev sh0:List (Nat×Sh):= [(1,.pb 500000 (.arr 256 .bool) []),(2,.pb 500001 (.arr 4 (.int .u64)) []),(3,.pb 500002 (.arr 4 (.int .u64)) []),(4,.p (.int .i64))]
abbrev bx0:List (Nat×Ty):= [(500000,.arr 256 .bool),(500001,.arr 4 (.int .u64)),(500002,.arr 4 (.int .u64))]
abbrev aZ:List (Nat×Ty):= [(500000,.arr 256 .bool),(500001,.arr 4 (.int .u64)),(500002,.arr 4 (.int .u64))]
abbrev aY:List (Nat×Sh):= []
abbrev bf:List (Nat×Ty):= []
abbrev bU:List (Nat×Ty):= []
abbrev X0:Type:=Unit×Unit×Unit×Int×Unit
abbrev Y0:Type:=(List Bool)×(List Int)×(List Int)×Unit
abbrev U0:Type:=Unit
abbrev V0:Type:=Unit
def g0 {Z:Type} (rq:Bool→Z→Z) (kn:X0→Y0→Z) (ke:Nat→X0→Y0→Z) (kr:U0→V0→Z) (x:X0) (y:Y0):Z:=
lt (ilt x.2.2.2.1 256) fun v1186=>
bif v1186 then
rq (ile (0:Int) x.2.2.2.1&&ilt x.2.2.2.1 256)<|
lt (y.1.getD x.2.2.2.1.toNat false) fun (v1187:Bool)=>
bif v1187 then
lt (IntKind.i64.wrap (x.2.2.2.1.tdiv 64)) fun v1188=>
lt (IntKind.i64.wrap (x.2.2.2.1.tdiv 64)) fun v1189=>
rq (ile (0:Int) v1189&&ilt v1189 4)<|
lt (y.2.2.1.getD v1189.toNat 0) fun (v1190:Int)=>
lt (x.2.2.2.1.tmod 64) fun (v1191:Int)=>
lt (IntKind.u64.wrap ((1:Int)*2^(min v1191.toNat 64))) fun v1192=>
rq (!ilt v1191 0)<|
lt (fw .u64 (· ||| ·) v1190 v1192) fun v1193=>
rq (ile (0:Int) v1188&&ilt v1188 4)<|
lt (y.2.2.1.set v1188.toNat v1193) fun (v1194:(List Int))=>
lt (IntKind.i64.wrap (x.2.2.2.1+1)) fun v1195=>
kn ((),(),(),v1195,()) (y.1,y.2.1,v1194,())
else
lt (IntKind.i64.wrap (x.2.2.2.1+1)) fun v1196=>
kn ((),(),(),v1196,()) (y.1,y.2.1,y.2.2.1,())
else
ke 0 ((),(),(),x.2.2.2.1,()) (y.1,y.2.1,y.2.2.1,())
def fu0 (x:X0) (y:Y0):Nat:=((256:Int) - x.2.2.2.1).toNat+1
def l0 (x:X0) (y:Y0):Bool×Nat×X0×Y0×U0×V0:=rounds (fun rq kn ke kr x y=>g0 rq kn ke kr x y) () () (fu0 x y) x y
def g {Z:Type} (rq:Bool→Z→Z) (rt:X→Z) (b:(List Bool)):Z:=
lt (dV.l0 ((),(),(),0,()) (b,[0,0,0,0],[0,0,0,0],())) fun w1197=>
rq w1197.1<|
rt w1197.2.2.2.1.2.2.1
def r (b:(List Bool)):Bool×X:=g chk (fun x=>(true,x)) b
def D:aI:=Dof (P:=Tryz.prog) []
abbrev lf0:=bY (R:=Res) [1] (rounds (fun rq kn ke kr x y=>g0 rq kn ke kr x y) () ()) fu0
def tab:List (Nat×LE Res):= [(4,.typed (eB 25 sh0 bx0 aZ aY bf (lf0)))]
theorem bR:Nonempty (Told E0 D tab Tryz.f52.ntmps (aF (codeOf Tryz.f52) 0) 25 sh0 bx0 aZ aY bf lf0):=eX (sh:=sh0) (bx:=bx0) (ord:=aZ) (shR:=aY) (bxR:=bf) bU (by kernel_rfl) (by kernel_rfl) (by kernel_rfl) [1] _ _ _ @g0 (fun _ _ _ _ _=>by kernel_rfl) (by
  intro _ _ _ _ _ _ _ h i k x y
  simp only [g0]
  with_reducible repeat (first|(apply J.lt; intro _)|apply J.rq|apply J.bif|exact h _ _|exact i _ (by decide) _ _|exact k (by decide) _ _))
theorem bT:fF E0 D tab Tryz.f52.ntmps (codeOf Tryz.f52):=bN (bs:= [aF (codeOf Tryz.f52) 0]) (by kernel_rfl) (aD (bI (by kernel_rfl) (bR)) aL)
abbrev aS:List AS:= [.one (.val (.arr 256 .bool))]
abbrev bS:List Ty:= []
def ent:Ent Tryz.prog:=bO (D:=D) (tab:=tab) hE0 (ay _) [true] Tryz.func52 (by kernel_rfl) bT aS bS res (fun x y=>r x.1) (fun x y=>g (fun c z=>req c z) (fun x=>some (res x)) x.1) (fun _ _=>by kernel_rfl) (by
 intro x y
 show J _ (g chk (fun x=>(true,x)) x.1) (g (fun c z=>req c z) (fun x=>some (res x)) x.1)
 unfold g
 with_reducible repeat (first|(apply J.lt; intro _)|apply J.rq|apply J.bif|exact J.rt rfl))
end dV
namespace aX
abbrev X:Type:=(List Int)
def res (x:(List Int)):Res:=⟨[.val ⟨.arr 4 (.int .u64),x⟩],[],[]⟩
abbrev sh0:List (Nat×Sh):= [(0,.p (.int .i64)),(2,.pb 500000 (.arr 4 (.int .u64)) []),(3,.pb 500001 (.arr 256 .bool) []),(4,.p (.int .i64))]
abbrev bx0:List (Nat×Ty):= [(500000,.arr 4 (.int .u64)),(500001,.arr 256 .bool)]
abbrev aZ:List (Nat×Ty):= [(500000,.arr 4 (.int .u64)),(500001,.arr 256 .bool)]
abbrev aY:List (Nat×Sh):= []
abbrev bf:List (Nat×Ty):= []
abbrev bU:List (Nat×Ty):= []
abbrev X0:Type:=Int×Unit×Unit×Int×Unit
abbrev Y0:Type:=(List Int)×(List Bool)×Unit
abbrev U0:Type:=Unit
abbrev V0:Type:=Unit
def g0 {Z:Type} (rq:Bool→Z→Z) (kn:X0→Y0→Z) (ke:Nat→X0→Y0→Z) (kr:U0→V0→Z) (x:X0) (y:Y0):Z:=
lt (ilt x.2.2.2.1 63) fun v1169=>
bif v1169 then
lt (ilt 0 x.1) fun v1170=>
bif v1170 then
lt (x.1.fdiv (2^(min x.2.2.2.1.toNat 64))) fun (v1171:Int)=>
rq (!ilt x.2.2.2.1 0)<|
lt (fw .i64 (· &&& ·) v1171 (1:Int)) fun v1172=>
lt (v1172== 1) fun (v1173:Bool)=>
rq (ile (0:Int) x.2.2.2.1&&ilt x.2.2.2.1 256)<|
lt (y.2.1.set x.2.2.2.1.toNat v1173) fun (v1174:(List Bool))=>
lt (IntKind.i64.wrap (x.2.2.2.1+1)) fun v1175=>
kn (x.1,(),(),v1175,()) (y.1,v1174,())
else
ke 0 (x.1,(),(),x.2.2.2.1,()) (y.1,y.2.1,())
else
ke 0 (x.1,(),(),x.2.2.2.1,()) (y.1,y.2.1,())
def fu0 (x:X0) (y:Y0):Nat:=((63:Int) - x.2.2.2.1).toNat+1
def l0 (x:X0) (y:Y0):Bool×Nat×X0×Y0×U0×V0:=rounds (fun rq kn ke kr x y=>g0 rq kn ke kr x y) () () (fu0 x y) x y
def g {Z:Type} (rq:Bool→Z→Z) (rt:X→Z) (n:Int):Z:=
lt (List.replicate 256 false) fun (v1166:(List Bool))=>
lt (List.replicate 256 false) fun (v1167:(List Bool))=>
lt (aX.l0 (n,(),(),0,()) ([0,0,0,0],v1166,())) fun w1176=>
rq w1176.1<|
lt (dV.r w1176.2.2.2.1.2.1) fun w1198=>
rq w1198.1<|
rt w1198.2
def r (n:Int):Bool×X:=g chk (fun x=>(true,x)) n
def D:aI:=Dof (P:=Tryz.prog) [dV.ent]
abbrev lf0:=bY (R:=Res) [1] (rounds (fun rq kn ke kr x y=>g0 rq kn ke kr x y) () ()) fu0
def tab:List (Nat×LE Res):= [(4,.typed (eB 23 sh0 bx0 aZ aY bf (lf0)))]
theorem bR:Nonempty (Told E0 D tab Tryz.f28.ntmps (aF (codeOf Tryz.f28) 0) 23 sh0 bx0 aZ aY bf lf0):=eX (sh:=sh0) (bx:=bx0) (ord:=aZ) (shR:=aY) (bxR:=bf) bU (by kernel_rfl) (by kernel_rfl) (by kernel_rfl) [1] _ _ _ @g0 (fun _ _ _ _ _=>by kernel_rfl) (by
  intro _ _ _ _ _ _ _ h i k x y
  simp only [g0]
  with_reducible repeat (first|(apply J.lt; intro _)|apply J.rq|apply J.bif|exact h _ _|exact i _ (by decide) _ _|exact k (by decide) _ _))
theorem bT:fF E0 D tab Tryz.f28.ntmps (codeOf Tryz.f28):=bN (bs:= [aF (codeOf Tryz.f28) 0]) (by kernel_rfl) (aD (bI (by kernel_rfl) (bR)) aL)
abbrev aS:List AS:= [.one (.val (.int .i64))]
abbrev bS:List Ty:= []
def ent:Ent Tryz.prog:=bO (D:=D) (tab:=tab) hE0 (ay _) [true] Tryz.func28 (by kernel_rfl) bT aS bS res (fun x y=>r x.1) (fun x y=>g (fun c z=>req c z) (fun x=>some (res x)) x.1) (fun _ _=>by kernel_rfl) (by
 intro x y
 show J _ (g chk (fun x=>(true,x)) x.1) (g (fun c z=>req c z) (fun x=>some (res x)) x.1)
 unfold g
 with_reducible repeat (first|(apply J.lt; intro _)|apply J.rq|apply J.bif|exact J.rt rfl))
end aX
namespace aW
abbrev X:Type:=(List Int)
def res (x:(List Int)):Res:=⟨[.val ⟨.arr 4 (.int .u64),x⟩],[],[]⟩
def brn (w:Bool×X):Brn Res:= .one w.1 (res w.2)
theorem dA (w:Bool×X):(brn w).res=(w.1,res w.2):=rfl
def g {Z:Type} (rq:Bool→Z→Z) (rt:X→Z) (n:Int):Z:=
lt (aX.r n) fun w1199=>
rq w1199.1<|
rt w1199.2
def r (n:Int):Bool×X:=g chk (fun x=>(true,x)) n
def D:aI:=Dof (P:=Tryz.prog) [aX.ent]
def tab:List (Nat×LE Res):= []
theorem run (n:Int):iD E0 [true] D (iR E0 D tab 9) Tryz.f18 (codeOf Tryz.f18) [.val ⟨.int .i64,n⟩] []=g (fun c z=>req c z) (fun x=>some (res x)) n:=by kernel_rfl
theorem rel (n:Int):J (fun w z=>z=some (res w)) (g chk (fun x=>(true,x)) n) (g (fun c z=>req c z) (fun x=>some (res x)) n):=by
 unfold g
 with_reducible repeat (first|(apply J.lt; intro _)|apply J.rq|apply J.bif|exact J.rt rfl)
theorem ok:oq Tryz.f18=true:=by kernel_rfl
abbrev aS:List AS:= [.one (.val (.int .i64))]
abbrev bS:List Ty:= []
def F (x:ASs aS) (y:Bs bS):Brn Res:=brn (r x.1)
theorem good (x:ASs aS) (y:Bs bS) (h:(F x y).res.1=true):Good Tryz.prog 18 (ASs.mk aS x) (Bs.mk bS y) (F x y).res.2:=
 fZ hE0 (ay _) Tryz.func18 ok aG dA (run x.1) (rel x.1) h
def ent:Ent Tryz.prog:=⟨18,shF aS bS F,bX good⟩
def ro:Int→Bool×X:=Classical.choose (⟨r,rfl⟩:∃ q:Int→Bool×X,q=r)
theorem gI:ro=r:=Classical.choose_spec (⟨r,rfl⟩:∃ q:Int→Bool×X,q=r)
def FO (x:ASs aS) (y:Bs bS):Brn Res:=brn (ro x.1)
theorem kR:FO=F:=by unfold FO F; rw [gI]
def oC:Ent Tryz.prog:=⟨18,shF aS bS FO,bX (by rw [kR]; exact good)⟩
end aW
namespace bH
abbrev X:Type:=(Option aJ)
def res (x:(Option aJ)):Res:=⟨[.val ⟨.ref eY,x⟩],[],[]⟩
def g {Z:Type} (rq:Bool→Z→Z) (rt:X→Z) (gx:(Option aj)):Z:=
bif gx.isNone then
rt none
else
lt (gx.getD ((none,(none,())),([0,0,0,0],()))) fun (v1202:aj)=>
rq gx.isSome<|
rt v1202.1.2.1
def r (gx:(Option aj)):Bool×X:=g chk (fun x=>(true,x)) gx
def D:aI:=Dof (P:=Tryz.prog) []
def tab:List (Nat×LE Res):= []
abbrev aS:List AS:= [.one (.val (.ref au))]
abbrev bS:List Ty:= []
def ent:Ent Tryz.prog:=bO (D:=D) (tab:=tab) hE0 (ay _) [true] Tryz.func24 (by kernel_rfl) aG aS bS res (fun x y=>r x.1) (fun x y=>g (fun c z=>req c z) (fun x=>some (res x)) x.1) (fun _ _=>by kernel_rfl) (by
 intro x y
 show J _ (g chk (fun x=>(true,x)) x.1) (g (fun c z=>req c z) (fun x=>some (res x)) x.1)
 unfold g
 with_reducible repeat (first|(apply J.lt; intro _)|apply J.rq|apply J.bif|exact J.rt rfl))
end bH
namespace j6
abbrev X:Type:=(List Int)
def res (x:(List Int)):Res:=⟨[.val ⟨.arr 4 (.int .u64),x⟩],[],[]⟩
def g {Z:Type} (rq:Bool→Z→Z) (rt:X→Z) (rx:(Option aJ)) (a:(List Int)) (b:(List Int)):Z:=
lt (dW.r rx) fun w1212=>
rq w1212.1<|
lt (!w1212.2) fun (v1213:Bool)=>
bif v1213 then
rt [0,0,0,0]
else
lt (iP.r rx a) fun w1214=>
rq w1214.1<|
lt (jf.r rx b) fun w1215=>
rq w1215.1<|
lt (bC.r rx w1214.2 w1215.2) fun w1216=>
rq w1216.1<|
rt w1216.2
def r (rx:(Option aJ)) (a:(List Int)) (b:(List Int)):Bool×X:=g chk (fun x=>(true,x)) rx a b
def D:aI:=Dof (P:=Tryz.prog) [dW.ent,iP.ent,jf.ent,bC.ent]
def tab:List (Nat×LE Res):= []
abbrev aS:List AS:= [.one (.val (.ref eY)),.one (.val (.arr 4 (.int .u64))),.one (.val (.arr 4 (.int .u64)))]
abbrev bS:List Ty:= []
def ent:Ent Tryz.prog:=bO (D:=D) (tab:=tab) hE0 (ay _) [true] Tryz.func80 (by kernel_rfl) aG aS bS res (fun x y=>r x.1 x.2.1 x.2.2.1) (fun x y=>g (fun c z=>req c z) (fun x=>some (res x)) x.1 x.2.1 x.2.2.1) (fun _ _=>by kernel_rfl) (by
 intro x y
 show J _ (g chk (fun x=>(true,x)) x.1 x.2.1 x.2.2.1) (g (fun c z=>req c z) (fun x=>some (res x)) x.1 x.2.1 x.2.2.1)
 unfold g
 with_reducible repeat (first|(apply J.lt; intro _)|apply J.rq|apply J.bif|exact J.rt rfl))
end j6
namespace iV
abbrev X:Type:=(List Int)
def res (x:(List Int)):Res:=⟨[.val ⟨.arr 4 (.int .u64),x⟩],[],[]⟩
def g {Z:Type} (rq:Bool→Z→Z) (rt:X→Z) (gx:(Option aj)) (a:(List Int)) (b:(List Int)):Z:=
lt (bH.r gx) fun w1211=>
rq w1211.1<|
lt (j6.r w1211.2 a b) fun w1217=>
rq w1217.1<|
rt w1217.2
def r (gx:(Option aj)) (a:(List Int)) (b:(List Int)):Bool×X:=g chk (fun x=>(true,x)) gx a b
def D:aI:=Dof (P:=Tryz.prog) [bH.ent,j6.ent]
def tab:List (Nat×LE Res):= []
abbrev aS:List AS:= [.one (.val (.ref au)),.one (.val (.arr 4 (.int .u64))),.one (.val (.arr 4 (.int .u64)))]
abbrev bS:List Ty:= []
def ent:Ent Tryz.prog:=bO (D:=D) (tab:=tab) hE0 (ay _) [true] Tryz.func48 (by kernel_rfl) aG aS bS res (fun x y=>r x.1 x.2.1 x.2.2.1) (fun x y=>g (fun c z=>req c z) (fun x=>some (res x)) x.1 x.2.1 x.2.2.1) (fun _ _=>by kernel_rfl) (by
 intro x y
 show J _ (g chk (fun x=>(true,x)) x.1 x.2.1 x.2.2.1) (g (fun c z=>req c z) (fun x=>some (res x)) x.1 x.2.1 x.2.2.1)
 unfold g
 with_reducible repeat (first|(apply J.lt; intro _)|apply J.rq|apply J.bif|exact J.rt rfl))
end iV
namespace mD
abbrev X:Type:=(List Int)
def res (x:(List Int)):Res:=⟨[.val ⟨.arr 4 (.int .u64),x⟩],[],[]⟩
def g {Z:Type} (rq:Bool→Z→Z) (rt:X→Z) (rx:(Option aJ)):Z:=
lt (dW.r rx) fun w1219=>
rq w1219.1<|
lt (!w1219.2) fun (v1220:Bool)=>
bif v1220 then
rt [0,0,0,0]
else
lt (rx.getD eu) fun (v1221:aJ)=>
rq rx.isSome<|
rt v1221.1
def r (rx:(Option aJ)):Bool×X:=g chk (fun x=>(true,x)) rx
def D:aI:=Dof (P:=Tryz.prog) [dW.ent]
def tab:List (Nat×LE Res):= []
abbrev aS:List AS:= [.one (.val (.ref eY))]
abbrev bS:List Ty:= []
def ent:Ent Tryz.prog:=bO (D:=D) (tab:=tab) hE0 (ay _) [true] Tryz.func107 (by kernel_rfl) aG aS bS res (fun x y=>r x.1) (fun x y=>g (fun c z=>req c z) (fun x=>some (res x)) x.1) (fun _ _=>by kernel_rfl) (by
 intro x y
 show J _ (g chk (fun x=>(true,x)) x.1) (g (fun c z=>req c z) (fun x=>some (res x)) x.1)
 unfold g
 with_reducible repeat (first|(apply J.lt; intro _)|apply J.rq|apply J.bif|exact J.rt rfl))
end mD
namespace gQ
abbrev X:Type:=(List Int)
def res (x:(List Int)):Res:=⟨[.val ⟨.arr 4 (.int .u64),x⟩],[],[]⟩
def g {Z:Type} (rq:Bool→Z→Z) (rt:X→Z) (gx:(Option aj)):Z:=
lt (bH.r gx) fun w1218=>
rq w1218.1<|
lt (mD.r w1218.2) fun w1222=>
rq w1222.1<|
rt w1222.2
def r (gx:(Option aj)):Bool×X:=g chk (fun x=>(true,x)) gx
def D:aI:=Dof (P:=Tryz.prog) [bH.ent,mD.ent]
def tab:List (Nat×LE Res):= []
abbrev aS:List AS:= [.one (.val (.ref au))]
abbrev bS:List Ty:= []
def ent:Ent Tryz.prog:=bO (D:=D) (tab:=tab) hE0 (ay _) [true] Tryz.func79 (by kernel_rfl) aG aS bS res (fun x y=>r x.1) (fun x y=>g (fun c z=>req c z) (fun x=>some (res x)) x.1) (fun _ _=>by kernel_rfl) (by
 intro x y
 show J _ (g chk (fun x=>(true,x)) x.1) (g (fun c z=>req c z) (fun x=>some (res x)) x.1)
 unfold g
 with_reducible repeat (first|(apply J.lt; intro _)|apply J.rq|apply J.bif|exact J.rt rfl))
end gQ
namespace mo
abbrev X:Type:=(List Int)×Int
def res (x:(List Int)×Int):Res:=⟨[.val ⟨.arr 4 (.int .u64),x.1⟩,.val ⟨.int .i64,x.2⟩],[],[]⟩
def g {Z:Type} (rq:Bool→Z→Z) (rt:X→Z) (a:(List Int)) (b:(List Int)) (m:(List Int)):Z:=
lt (qN.r a b) fun w1224=>
rq w1224.1<|
lt (dY.r w1224.2.2) fun w1225=>
rq w1225.1<|
lt (gU.r w1224.2.1 w1225.2 m) fun w1226=>
rq w1226.1<|
rt (w1226.2.1,w1226.2.2)
def r (a:(List Int)) (b:(List Int)) (m:(List Int)):Bool×X:=g chk (fun x=>(true,x)) a b m
def D:aI:=Dof (P:=Tryz.prog) [qN.ent,dY.ent,gU.ent]
def tab:List (Nat×LE Res):= []
abbrev aS:List AS:= [.one (.val (.arr 4 (.int .u64))),.one (.val (.arr 4 (.int .u64))),.one (.val (.arr 4 (.int .u64)))]
abbrev bS:List Ty:= []
def ent:Ent Tryz.prog:=bO (D:=D) (tab:=tab) hE0 (ay _) [true,true] Tryz.func78 (by kernel_rfl) aG aS bS res (fun x y=>r x.1 x.2.1 x.2.2.1) (fun x y=>g (fun c z=>req c z) (fun x=>some (res x)) x.1 x.2.1 x.2.2.1) (fun _ _=>by kernel_rfl) (by
 intro x y
 show J _ (g chk (fun x=>(true,x)) x.1 x.2.1 x.2.2.1) (g (fun c z=>req c z) (fun x=>some (res x)) x.1 x.2.1 x.2.2.1)
 unfold g
 with_reducible repeat (first|(apply J.lt; intro _)|apply J.rq|apply J.bif|exact J.rt rfl))
end mo
namespace iW
abbrev X:Type:=(List Int)
def res (x:(List Int)):Res:=⟨[.val ⟨.arr 4 (.int .u64),x⟩],[],[]⟩
def g {Z:Type} (rq:Bool→Z→Z) (rt:X→Z) (gx:(Option aj)) (a:(List Int)) (b:(List Int)):Z:=
lt (gQ.r gx) fun w1223=>
rq w1223.1<|
lt (mo.r a b w1223.2) fun w1227=>
rq w1227.1<|
rt w1227.2.1
def r (gx:(Option aj)) (a:(List Int)) (b:(List Int)):Bool×X:=g chk (fun x=>(true,x)) gx a b
def D:aI:=Dof (P:=Tryz.prog) [gQ.ent,mo.ent]
def tab:List (Nat×LE Res):= []
abbrev aS:List AS:= [.one (.val (.ref au)),.one (.val (.arr 4 (.int .u64))),.one (.val (.arr 4 (.int .u64)))]
abbrev bS:List Ty:= []
def ent:Ent Tryz.prog:=bO (D:=D) (tab:=tab) hE0 (ay _) [true] Tryz.func47 (by kernel_rfl) aG aS bS res (fun x y=>r x.1 x.2.1 x.2.2.1) (fun x y=>g (fun c z=>req c z) (fun x=>some (res x)) x.1 x.2.1 x.2.2.1) (fun _ _=>by kernel_rfl) (by
 intro x y
 show J _ (g chk (fun x=>(true,x)) x.1 x.2.1 x.2.2.1) (g (fun c z=>req c z) (fun x=>some (res x)) x.1 x.2.1 x.2.2.1)
 unfold g
 with_reducible repeat (first|(apply J.lt; intro _)|apply J.rq|apply J.bif|exact J.rt rfl))
end iW
end Go.Own
