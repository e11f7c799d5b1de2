/- What functions compute, printed by wip/gen/gen2.py. -/
import Derived.Test.YtapkilfcibkphaaGreatG2
set_option linter.unusedVariables false
set_option linter.unusedSimpArgs false
set_option maxRecDepth 100000
noncomputable section
namespace Go.Own
open Go.Proofs Go.Proofs.YtapkilfcibkphaaGreat
namespace eO
abbrev X:Type:=Int
def res (x:Int):Res:=⟨[.val ⟨.int .i64,x⟩],[],[]⟩
abbrev sh0:List (Nat×Sh):= [(0,.p (.sl jQ)),(2,.p (.int .i64)),(5,.p (.int .i64))]
abbrev bx0:List (Nat×Ty):= []
abbrev bH:List (Nat×Ty):= []
abbrev bG:List (Nat×Sh):= [(2,.p (.int .i64))]
abbrev bI:List (Nat×Ty):= []
abbrev dH:List (Nat×Ty):= []
abbrev X0:Type:=(List gV)×Int×Int×Unit
abbrev Y0:Type:=Unit
abbrev U0:Type:=Int×Unit
abbrev V0:Type:=Unit
def g0 {Z:Type} (rq:Bool→Z→Z) (kn:X0→Y0→Z) (ke:Nat→X0→Y0→Z) (kr:U0→V0→Z) (x:X0) (y:Y0):Z:=
lt (x.1.length:Int) fun (v41:Int)=>
lt (ilt x.2.2.1 v41) fun v42=>
bif v42 then
lt (x.1.getD x.2.2.1.toNat ([0,0,0,0],(0,()))) fun (v43:gV)=>
rq (ile (0:Int) x.2.2.1&&ilt x.2.2.1 (x.1.length:Int))<|
lt (IntKind.i64.wrap (x.2.2.1 - 1)) fun v44=>
lt (x.1.getD v44.toNat ([0,0,0,0],(0,()))) fun (v45:gV)=>
rq (ile (0:Int) v44&&ilt v44 (x.1.length:Int))<|
lt (x.1.getD x.2.2.1.toNat ([0,0,0,0],(0,()))) fun (v46:gV)=>
rq (ile (0:Int) x.2.2.1&&ilt x.2.2.1 (x.1.length:Int))<|
lt (mg.r v43.1 v45.1 v46.2.1) fun w1031=>
rq w1031.1<|
lt (!w1031.2) fun (v1032:Bool)=>
bif v1032 then
kr (4,()) ()
else
lt (IntKind.i64.wrap (x.2.2.1+1)) fun v1033=>
kn (x.1,x.2.1,v1033,()) ()
else
ke 0 (x.1,x.2.1,x.2.2.1,()) ()
def fu0 (x:X0) (y:Y0):Nat:=((x.1.length:Int) - x.2.2.1).toNat+1
def l0 (x:X0) (y:Y0):Bool×Nat×X0×Y0×U0×V0:=rounds (fun rq kn ke kr x y=>g0 rq kn ke kr x y) (0,()) () (fu0 x y) x y
def g {Z:Type} (rq:Bool→Z→Z) (rt:X→Z) (l:(List gV)):Z:=
lt (l.length:Int) fun (v10:Int)=>
lt (ilt v10 1) fun v11=>
bif v11 then
rt 4
else
lt (l.length:Int) fun (v12:Int)=>
lt (ilt 8 v12) fun v13=>
bif v13 then
rt 4
else
lt (l.getD 0 ([0,0,0,0],(0,()))) fun (v14:gV)=>
rq (ilt (0:Int) (l.length:Int))<|
lt (oU.r v14.1) fun w21=>
rq w21.1<|
lt (!w21.2.2) fun (v22:Bool)=>
bif v22 then
rt 4
else
lt (mP.r w21.2.1) fun w35=>
rq w35.1<|
lt (!w35.2) fun (v36:Bool)=>
bif v36 then
rt 4
else
lt (l.getD 0 ([0,0,0,0],(0,()))) fun (v37:gV)=>
rq (ilt (0:Int) (l.length:Int))<|
lt (v37.2.1 != 0) fun (v38:Bool)=>
bif v38 then
rt 4
else
lt (eO.l0 (l,0,1,()) ()) fun w1034=>
rq w1034.1<|
bif Nat.beq w1034.2.1 0 then
rt w1034.2.2.2.2.1.1
else
rt 0
def r (l:(List gV)):Bool×X:=g chk (fun x=>(true,x)) l
def D:aL:=Dof (P:=Tryz.prog) [oU.ent,mP.ent,mg.ent]
abbrev lf0:=dO (R:=Res) [0,1] (rounds (fun rq kn ke kr x y=>g0 rq kn ke kr x y) (0,()) ()) fu0
def tab:List (Nat×LE Res):= [(8,.typed (eY 60 sh0 bx0 bH bG bI (lf0)))]
theorem dF:Nonempty (Told E0 D tab Tryz.f41.ntmps (aI (codeOf Tryz.f41) 0) 60 sh0 bx0 bH bG bI lf0):=fG (sh:=sh0) (bx:=bx0) (ord:=bH) (shR:=bG) (bxR:=bI) dH (by kernel_rfl) (by kernel_rfl) (by kernel_rfl) [0,1] _ _ _ @g0 (fun _ _ _ _ _=>by kernel_rfl) (by
  intro _ _ _ _ _ _ _ h i k x y
  simp only [g0]
  with_reducible repeat (first|(apply J.lt; intro _)|apply J.rq|apply J.bif|exact h _ _|exact i _ (by decide) _ _|exact k (by decide) _ _))
theorem dG:fU E0 D tab Tryz.f41.ntmps (codeOf Tryz.f41):=dw (bs:= [aI (codeOf Tryz.f41) 0]) (by kernel_rfl) (aH (bY (by kernel_rfl) (dF)) bA)
abbrev aS:List AS:= [.one (.val (.sl jQ))]
abbrev bS:List Ty:= []
def ent:Ent Tryz.prog:=bU (D:=D) (tab:=tab) hE0 (aC _) [true] Tryz.func41 (by kernel_rfl) dG aS bS res (fun x y=>r x.1) (fun x y=>g (fun c z=>req c z) (fun x=>some (res x)) x.1) (fun _ _=>by kernel_rfl) (by
 intro x y
 show J _ (g chk (fun x=>(true,x)) x.1) (g (fun c z=>req c z) (fun x=>some (res x)) x.1)
 unfold g
 with_reducible repeat (first|(apply J.lt; intro _)|apply J.rq|apply J.bif|exact J.rt rfl))
end eO
namespace jR
abbrev X:Type:=Bool
def res (x:Bool):Res:=⟨[.val ⟨.bool,x⟩],[],[]⟩
def g {Z:Type} (rq:Bool→Z→Z) (rt:X→Z) (rx:(Option aG)) (a:(List Int)):Z:=
lt (cZ.r rx) fun w1050=>
rq w1050.1<|
bif w1050.2 then
lt (rx.getD dB) fun (v1051:aG)=>
rq rx.isSome<|
lt (iP.r a v1051.1) fun w1052=>
rq w1052.1<|
lt (ilt w1052.2 0) fun v1053=>
rt v1053
else
rt false
def r (rx:(Option aG)) (a:(List Int)):Bool×X:=g chk (fun x=>(true,x)) rx a
def D:aL:=Dof (P:=Tryz.prog) [cZ.ent,iP.ent]
def tab:List (Nat×LE Res):= []
abbrev aS:List AS:= [.one (.val (.ref dS)),.one (.val (.arr 4 (.int .u64)))]
abbrev bS:List Ty:= []
def ent:Ent Tryz.prog:=bU (D:=D) (tab:=tab) hE0 (aC _) [true] Tryz.func44 (by kernel_rfl) aJ aS bS res (fun x y=>r x.1 x.2.1) (fun x y=>g (fun c z=>req c z) (fun x=>some (res x)) x.1 x.2.1) (fun _ _=>by kernel_rfl) (by
 intro x y
 show J _ (g chk (fun x=>(true,x)) x.1 x.2.1) (g (fun c z=>req c z) (fun x=>some (res x)) x.1 x.2.1)
 unfold g
 with_reducible repeat (first|(apply J.lt; intro _)|apply J.rq|apply J.bif|exact J.rt rfl))
end jR
namespace kR
abbrev X:Type:=Nat×((Option ai)×Int)×(Int×ai)
def nT (x:(Option ai)×Int):Res:=⟨[.val ⟨.ref au,x.1⟩,.val ⟨.int .i64,x.2⟩],[],[]⟩
def nS (x:Int×ai):Res:=⟨[.pb 1000000 au [],.val ⟨.int .i64,x.1⟩],[],[⟨au,x.2⟩]⟩
def res (x:X):Res:=bif Nat.beq x.1 0 then nT x.2.1 else (nS x.2.2)
def brn (w:Bool×X):Brn Res:= .ite (Nat.beq w.2.1 0) (.one w.1 (nT w.2.2.1)) (.one w.1 (nS w.2.2.2))
theorem dI (w:Bool×X):(brn w).res=(w.1,res w.2):=by
 cases h0:Nat.beq w.2.1 0 with
 |true=>simp only [brn,res,Brn.res,h0,cond_true,cond_false]
 |false=>
  simp only [brn,res,Brn.res,h0,cond_true,cond_false]
def g {Z:Type} (rq:Bool→Z→Z) (rt:X→Z) (p:jO):Z:=
lt (p.1.length:Int) fun (v8:Int)=>
lt (ilt v8 2) fun v9=>
bif v9 then
rt (0,(none,4),(0,((none,(none,())),([0,0,0,0],()))))
else
lt (eO.r p.1) fun w1035=>
rq w1035.1<|
lt (w1035.2 != 0) fun (v1036:Bool)=>
bif v1036 then
rt (0,(none,4),(0,((none,(none,())),([0,0,0,0],()))))
else
lt (IntKind.i64.wrap (v8 - 1)) fun v1037=>
lt (p.1.getD v1037.toNat ([0,0,0,0],(0,()))) fun (v1038:gV)=>
rq (ile (0:Int) v1037&&ilt v1037 (p.1.length:Int))<|
lt (lG.r v1038.1) fun w1039=>
rq w1039.1<|
lt (w1039.2.2 != 0) fun (v1040:Bool)=>
bif v1040 then
rt (0,(none,4),(0,((none,(none,())),([0,0,0,0],()))))
else
lt (IntKind.i64.wrap (v8 - 2)) fun v1041=>
lt (p.1.getD v1041.toNat ([0,0,0,0],(0,()))) fun (v1042:gV)=>
rq (ile (0:Int) v1041&&ilt v1041 (p.1.length:Int))<|
lt (lG.r v1042.1) fun w1043=>
rq w1043.1<|
lt (w1043.2.2 != 0) fun (v1044:Bool)=>
bif v1044 then
rt (0,(none,4),(0,((none,(none,())),([0,0,0,0],()))))
else
lt (oQ.r v1042.1) fun w1045=>
rq w1045.1<|
lt (ilt w1045.2 10) fun v1046=>
bif v1046 then
rt (0,(none,4),(0,((none,(none,())),([0,0,0,0],()))))
else
lt (ieq (p.2.1.getD 0 0) 0&&(ieq (p.2.1.getD 1 0) 0&&(ieq (p.2.1.getD 2 0) 0&&(ieq (p.2.1.getD 3 0) 0&&true)))) fun v1047=>
bif v1047 then
rt (0,(none,4),(0,((none,(none,())),([0,0,0,0],()))))
else
lt (dm.r 1) fun w1048=>
rq w1048.1<|
lt (ieq (p.2.1.getD 0 0) (w1048.2.getD 0 0)&&(ieq (p.2.1.getD 1 0) (w1048.2.getD 1 0)&&(ieq (p.2.1.getD 2 0) (w1048.2.getD 2 0)&&(ieq (p.2.1.getD 3 0) (w1048.2.getD 3 0)&&true)))) fun v1049=>
bif v1049 then
rt (0,(none,4),(0,((none,(none,())),([0,0,0,0],()))))
else
lt (jR.r w1039.2.1 p.2.1) fun w1054=>
rq w1054.1<|
lt (!w1054.2) fun (v1055:Bool)=>
bif v1055 then
rt (0,(none,4),(0,((none,(none,())),([0,0,0,0],()))))
else
lt (fq.r w1039.2.1 p.2.1 v1042.1) fun w1056=>
rq w1056.1<|
lt (dm.r 1) fun w1057=>
rq w1057.1<|
lt (!(ieq (w1056.2.getD 0 0) (w1057.2.getD 0 0)&&(ieq (w1056.2.getD 1 0) (w1057.2.getD 1 0)&&(ieq (w1056.2.getD 2 0) (w1057.2.getD 2 0)&&(ieq (w1056.2.getD 3 0) (w1057.2.getD 3 0)&&true))))) fun (v1058:Bool)=>
bif v1058 then
rt (0,(none,4),(0,((none,(none,())),([0,0,0,0],()))))
else
rt (1,(none,0),(0,((w1039.2.1,(w1043.2.1,())),(p.2.1,()))))
def r (p:jO):Bool×X:=g chk (fun x=>(true,x)) p
def D:aL:=Dof (P:=Tryz.prog) [eO.ent,lG.ent,oQ.ent,dm.ent,jR.ent,fq.ent]
def tab:List (Nat×LE Res):= []
theorem run (p:jO):gX E0 [false,true] D (iw E0 D tab 9) Tryz.f22 (codeOf Tryz.f22) [.val ⟨mG,p⟩] []=g (fun c z=>req c z) (fun x=>some (res x)) p:=by kernel_rfl
theorem rel (p:jO):J (fun w z=>z=some (res w)) (g chk (fun x=>(true,x)) p) (g (fun c z=>req c z) (fun x=>some (res x)) p):=by
 unfold g
 with_reducible repeat (first|(apply J.lt; intro _)|apply J.rq|apply J.bif|exact J.rt rfl)
theorem ok:ol Tryz.f22=true:=by kernel_rfl
abbrev aS:List AS:= [.one (.val mG)]
abbrev bS:List Ty:= []
def F (x:ASs aS) (y:Bs bS):Brn Res:=brn (r x.1)
theorem good (x:ASs aS) (y:Bs bS) (h:(F x y).res.1=true):Good Tryz.prog 22 (ASs.mk aS x) (Bs.mk bS y) (F x y).res.2:=
 fI hE0 (aC _) Tryz.func22 ok aJ dI (run x.1) (rel x.1) h
def ent:Ent Tryz.prog:=⟨22,shF aS bS F,bW good⟩
end kR
namespace iD
abbrev X:Type:=(List Int)
def res (x:(List Int)):Res:=⟨[.val ⟨.arr 4 (.int .u64),x⟩],[],[]⟩
def g {Z:Type} (rq:Bool→Z→Z) (rt:X→Z) (p:jO):Z:=
lt (p.1.length:Int) fun (v1060:Int)=>
lt (ilt v1060 2) fun v1061=>
bif v1061 then
rt [0,0,0,0]
else
lt (p.1.length:Int) fun (v1062:Int)=>
lt (IntKind.i64.wrap (v1062 - 2)) fun v1063=>
lt (p.1.getD v1063.toNat ([0,0,0,0],(0,()))) fun (v1064:gV)=>
rq (ile (0:Int) v1063&&ilt v1063 (p.1.length:Int))<|
rt v1064.1
def r (p:jO):Bool×X:=g chk (fun x=>(true,x)) p
def D:aL:=Dof (P:=Tryz.prog) []
def tab:List (Nat×LE Res):= []
abbrev aS:List AS:= [.one (.val mG)]
abbrev bS:List Ty:= []
def ent:Ent Tryz.prog:=bU (D:=D) (tab:=tab) hE0 (aC _) [true] Tryz.func23 (by kernel_rfl) aJ aS bS res (fun x y=>r x.1) (fun x y=>g (fun c z=>req c z) (fun x=>some (res x)) x.1) (fun _ _=>by kernel_rfl) (by
 intro x y
 show J _ (g chk (fun x=>(true,x)) x.1) (g (fun c z=>req c z) (fun x=>some (res x)) x.1)
 unfold g
 with_reducible repeat (first|(apply J.lt; intro _)|apply J.rq|apply J.bif|exact J.rt rfl))
end iD
namespace cK
abbrev X:Type:=(List Bool)
def res (x:(List Bool)):Res:=⟨[.val ⟨.arr 256 .bool,x⟩],[],[]⟩
abbrev sh0:List (Nat×Sh):= [(1,.pb 500000 (.arr 4 (.int .u64)) []),(2,.pb 500001 (.arr 256 .bool) []),(3,.pb 500002 (.arr 256 .bool) []),(4,.p (.int .i64))]
abbrev bx0:List (Nat×Ty):= [(500000,.arr 4 (.int .u64)),(500001,.arr 256 .bool),(500002,.arr 256 .bool)]
abbrev bH:List (Nat×Ty):= [(500000,.arr 4 (.int .u64)),(500001,.arr 256 .bool),(500002,.arr 256 .bool)]
abbrev bG:List (Nat×Sh):= []
abbrev bI:List (Nat×Ty):= []
abbrev dH:List (Nat×Ty):= []
abbrev X0:Type:=Unit×Unit×Unit×Int×Unit
abbrev Y0:Type:=(List Int)×(List Bool)×(List Bool)×Unit
abbrev U0:Type:=Unit
abbrev V0:Type:=Unit
def g0 {Z:Type} (rq:Bool→Z→Z) (kn:X0→Y0→Z) (ke:Nat→X0→Y0→Z) (kr:U0→V0→Z) (x:X0) (y:Y0):Z:=
lt (ilt x.2.2.2.1 256) fun v1114=>
bif v1114 then
lt (IntKind.i64.wrap (x.2.2.2.1.tdiv 64)) fun v1115=>
rq (ile (0:Int) v1115&&ilt v1115 4)<|
lt (y.1.getD v1115.toNat 0) fun (v1116:Int)=>
lt (x.2.2.2.1.tmod 64) fun (v1117:Int)=>
lt (v1116.fdiv (2^(min v1117.toNat 64))) fun (v1118:Int)=>
rq (!ilt v1117 0)<|
lt (eZ .u64 (· &&& ·) v1118 (1:Int)) fun v1119=>
lt (v1119== 1) fun (v1120:Bool)=>
rq (ile (0:Int) x.2.2.2.1&&ilt x.2.2.2.1 256)<|
lt (y.2.2.1.set x.2.2.2.1.toNat v1120) fun (v1121:(List Bool))=>
lt (IntKind.i64.wrap (x.2.2.2.1+1)) fun v1122=>
kn ((),(),(),v1122,()) (y.1,y.2.1,v1121,())
else
ke 0 ((),(),(),x.2.2.2.1,()) (y.1,y.2.1,y.2.2.1,())
def fu0 (x:X0) (y:Y0):Nat:=((256:Int) - x.2.2.2.1).toNat+1
def l0 (x:X0) (y:Y0):Bool×Nat×X0×Y0×U0×V0:=rounds (fun rq kn ke kr x y=>g0 rq kn ke kr x y) () () (fu0 x y) x y
def g {Z:Type} (rq:Bool→Z→Z) (rt:X→Z) (a:(List Int)):Z:=
lt (List.replicate 256 false) fun (v1066:(List Bool))=>
lt (List.replicate 256 false) fun (v1067:(List Bool))=>
lt (List.replicate 256 false) fun (v1068:(List Bool))=>
lt (cK.l0 ((),(),(),0,()) (a,v1066,v1067,())) fun w1123=>
rq w1123.1<|
rt w1123.2.2.2.1.2.2.1
def r (a:(List Int)):Bool×X:=g chk (fun x=>(true,x)) a
def D:aL:=Dof (P:=Tryz.prog) []
abbrev lf0:=dO (R:=Res) [1] (rounds (fun rq kn ke kr x y=>g0 rq kn ke kr x y) () ()) fu0
def tab:List (Nat×LE Res):= [(4,.typed (eY 22 sh0 bx0 bH bG bI (lf0)))]
theorem dF:Nonempty (Told E0 D tab Tryz.f30.ntmps (aI (codeOf Tryz.f30) 0) 22 sh0 bx0 bH bG bI lf0):=fG (sh:=sh0) (bx:=bx0) (ord:=bH) (shR:=bG) (bxR:=bI) dH (by kernel_rfl) (by kernel_rfl) (by kernel_rfl) [1] _ _ _ @g0 (fun _ _ _ _ _=>by kernel_rfl) (by
  intro _ _ _ _ _ _ _ h i k x y
  simp only [g0]
  with_reducible repeat (first|(apply J.lt; intro _)|apply J.rq|apply J.bif|exact h _ _|exact i _ (by decide) _ _|exact k (by decide) _ _))
theorem dG:fU E0 D tab Tryz.f30.ntmps (codeOf Tryz.f30):=dw (bs:= [aI (codeOf Tryz.f30) 0]) (by kernel_rfl) (aH (bY (by kernel_rfl) (dF)) bA)
abbrev aS:List AS:= [.one (.val (.arr 4 (.int .u64)))]
abbrev bS:List Ty:= []
def ent:Ent Tryz.prog:=bU (D:=D) (tab:=tab) hE0 (aC _) [true] Tryz.func30 (by kernel_rfl) dG aS bS res (fun x y=>r x.1) (fun x y=>g (fun c z=>req c z) (fun x=>some (res x)) x.1) (fun _ _=>by kernel_rfl) (by
 intro x y
 show J _ (g chk (fun x=>(true,x)) x.1) (g (fun c z=>req c z) (fun x=>some (res x)) x.1)
 unfold g
 with_reducible repeat (first|(apply J.lt; intro _)|apply J.rq|apply J.bif|exact J.rt rfl))
end cK
namespace bD
abbrev X:Type:=Int
def res (x:Int):Res:=⟨[.val ⟨.int .i64,x⟩],[],[]⟩
abbrev sh0:List (Nat×Sh):= [(2,.p (.int .i64)),(3,.pb 500000 (.arr 256 .bool) []),(4,.p (.int .i64))]
abbrev bx0:List (Nat×Ty):= [(500000,.arr 256 .bool)]
abbrev bH:List (Nat×Ty):= [(500000,.arr 256 .bool)]
abbrev bG:List (Nat×Sh):= [(2,.p (.int .i64))]
abbrev bI:List (Nat×Ty):= []
abbrev dH:List (Nat×Ty):= []
abbrev X0:Type:=Int×Unit×Int×Unit
abbrev Y0:Type:=(List Bool)×Unit
abbrev U0:Type:=Int×Unit
abbrev V0:Type:=Unit
def g0 {Z:Type} (rq:Bool→Z→Z) (kn:X0→Y0→Z) (ke:Nat→X0→Y0→Z) (kr:U0→V0→Z) (x:X0) (y:Y0):Z:=
lt (ile 0 x.2.2.1) fun v1135=>
bif v1135 then
rq (ile (0:Int) x.2.2.1&&ilt x.2.2.1 256)<|
lt (y.1.getD x.2.2.1.toNat false) fun (v1136:Bool)=>
bif v1136 then
lt (IntKind.i64.wrap (x.2.2.1+1)) fun v1137=>
kr (v1137,()) ()
else
lt (IntKind.i64.wrap (x.2.2.1 - 1)) fun v1138=>
kn (x.1,(),v1138,()) (y.1,())
else
ke 0 (x.1,(),x.2.2.1,()) (y.1,())
def fu0 (x:X0) (y:Y0):Nat:=(x.2.2.1 - (0:Int)+1).toNat+1
def l0 (x:X0) (y:Y0):Bool×Nat×X0×Y0×U0×V0:=rounds (fun rq kn ke kr x y=>g0 rq kn ke kr x y) (0,()) () (fu0 x y) x y
def g {Z:Type} (rq:Bool→Z→Z) (rt:X→Z) (a:(List Int)):Z:=
lt (cK.r a) fun w1124=>
rq w1124.1<|
lt (List.replicate 256 false) fun (v1125:(List Bool))=>
lt (bD.l0 (0,(),255,()) (w1124.2,())) fun w1139=>
rq w1139.1<|
bif Nat.beq w1139.2.1 0 then
rt w1139.2.2.2.2.1.1
else
rt 0
def r (a:(List Int)):Bool×X:=g chk (fun x=>(true,x)) a
def D:aL:=Dof (P:=Tryz.prog) [cK.ent]
abbrev lf0:=dO (R:=Res) [0,1] (rounds (fun rq kn ke kr x y=>g0 rq kn ke kr x y) (0,()) ()) fu0
def tab:List (Nat×LE Res):= [(4,.typed (eY 16 sh0 bx0 bH bG bI (lf0)))]
theorem dF:Nonempty (Told E0 D tab Tryz.f29.ntmps (aI (codeOf Tryz.f29) 0) 16 sh0 bx0 bH bG bI lf0):=fG (sh:=sh0) (bx:=bx0) (ord:=bH) (shR:=bG) (bxR:=bI) dH (by kernel_rfl) (by kernel_rfl) (by kernel_rfl) [0,1] _ _ _ @g0 (fun _ _ _ _ _=>by kernel_rfl) (by
  intro _ _ _ _ _ _ _ h i k x y
  simp only [g0]
  with_reducible repeat (first|(apply J.lt; intro _)|apply J.rq|apply J.bif|exact h _ _|exact i _ (by decide) _ _|exact k (by decide) _ _))
theorem dG:fU E0 D tab Tryz.f29.ntmps (codeOf Tryz.f29):=dw (bs:= [aI (codeOf Tryz.f29) 0]) (by kernel_rfl) (aH (bY (by kernel_rfl) (dF)) bA)
abbrev aS:List AS:= [.one (.val (.arr 4 (.int .u64)))]
abbrev bS:List Ty:= []
def ent:Ent Tryz.prog:=bU (D:=D) (tab:=tab) hE0 (aC _) [true] Tryz.func29 (by kernel_rfl) dG aS bS res (fun x y=>r x.1) (fun x y=>g (fun c z=>req c z) (fun x=>some (res x)) x.1) (fun _ _=>by kernel_rfl) (by
 intro x y
 show J _ (g chk (fun x=>(true,x)) x.1) (g (fun c z=>req c z) (fun x=>some (res x)) x.1)
 unfold g
 with_reducible repeat (first|(apply J.lt; intro _)|apply J.rq|apply J.bif|exact J.rt rfl))
end bD
namespace bT
abbrev X:Type:=Int×Bool
def res (x:Int×Bool):Res:=⟨[.val ⟨.int .i64,x.1⟩,.val ⟨.bool,x.2⟩],[],[]⟩
abbrev sh0:List (Nat×Sh):= [(2,.p (.int .i64)),(3,.p .bool),(4,.p (.int .i64)),(5,.pb 500000 (.arr 256 .bool) []),(6,.p (.int .i64))]
abbrev bx0:List (Nat×Ty):= [(500000,.arr 256 .bool)]
abbrev bH:List (Nat×Ty):= [(500000,.arr 256 .bool)]
abbrev bG:List (Nat×Sh):= []
abbrev bI:List (Nat×Ty):= []
abbrev dH:List (Nat×Ty):= []
abbrev X0:Type:=Int×Bool×Int×Unit×Int×Unit
abbrev Y0:Type:=(List Bool)×Unit
abbrev U0:Type:=Unit
abbrev V0:Type:=Unit
def g0 {Z:Type} (rq:Bool→Z→Z) (kn:X0→Y0→Z) (ke:Nat→X0→Y0→Z) (kr:U0→V0→Z) (x:X0) (y:Y0):Z:=
lt (ilt x.2.2.2.2.1 63) fun v1153=>
bif v1153 then
rq (ile (0:Int) x.2.2.2.2.1&&ilt x.2.2.2.2.1 256)<|
lt (y.1.getD x.2.2.2.2.1.toNat false) fun (v1154:Bool)=>
bif v1154 then
lt (IntKind.i64.wrap ((1:Int)*2^(min x.2.2.2.2.1.toNat 64))) fun v1155=>
rq (!ilt x.2.2.2.2.1 0)<|
lt (eZ .i64 (· ||| ·) x.2.2.1 v1155) fun v1156=>
lt (IntKind.i64.wrap (x.2.2.2.2.1+1)) fun v1157=>
kn (x.1,x.2.1,v1156,(),v1157,()) (y.1,())
else
lt (IntKind.i64.wrap (x.2.2.2.2.1+1)) fun v1158=>
kn (x.1,x.2.1,x.2.2.1,(),v1158,()) (y.1,())
else
ke 0 (x.1,x.2.1,x.2.2.1,(),x.2.2.2.2.1,()) (y.1,())
def fu0 (x:X0) (y:Y0):Nat:=((63:Int) - x.2.2.2.2.1).toNat+1
def l0 (x:X0) (y:Y0):Bool×Nat×X0×Y0×U0×V0:=rounds (fun rq kn ke kr x y=>g0 rq kn ke kr x y) () () (fu0 x y) x y
def g {Z:Type} (rq:Bool→Z→Z) (rt:X→Z) (a:(List Int)):Z:=
lt (bD.r a) fun w1140=>
rq w1140.1<|
lt (ilt 63 w1140.2) fun v1141=>
bif v1141 then
rt (0,false)
else
lt (cK.r a) fun w1142=>
rq w1142.1<|
lt (List.replicate 256 false) fun (v1143:(List Bool))=>
lt (bT.l0 (0,false,0,(),0,()) (w1142.2,())) fun w1159=>
rq w1159.1<|
rt (w1159.2.2.1.2.2.1,true)
def r (a:(List Int)):Bool×X:=g chk (fun x=>(true,x)) a
def D:aL:=Dof (P:=Tryz.prog) [bD.ent,cK.ent]
abbrev lf0:=dO (R:=Res) [1] (rounds (fun rq kn ke kr x y=>g0 rq kn ke kr x y) () ()) fu0
def tab:List (Nat×LE Res):= [(7,.typed (eY 24 sh0 bx0 bH bG bI (lf0)))]
theorem dF:Nonempty (Told E0 D tab Tryz.f9.ntmps (aI (codeOf Tryz.f9) 0) 24 sh0 bx0 bH bG bI lf0):=fG (sh:=sh0) (bx:=bx0) (ord:=bH) (shR:=bG) (bxR:=bI) dH (by kernel_rfl) (by kernel_rfl) (by kernel_rfl) [1] _ _ _ @g0 (fun _ _ _ _ _=>by kernel_rfl) (by
  intro _ _ _ _ _ _ _ h i k x y
  simp only [g0]
  with_reducible repeat (first|(apply J.lt; intro _)|apply J.rq|apply J.bif|exact h _ _|exact i _ (by decide) _ _|exact k (by decide) _ _))
theorem dG:fU E0 D tab Tryz.f9.ntmps (codeOf Tryz.f9):=dw (bs:= [aI (codeOf Tryz.f9) 0]) (by kernel_rfl) (aH (bY (by kernel_rfl) (dF)) bA)
abbrev aS:List AS:= [.one (.val (.arr 4 (.int .u64)))]
abbrev bS:List Ty:= []
def ent:Ent Tryz.prog:=bU (D:=D) (tab:=tab) hE0 (aC _) [false,true] Tryz.func9 (by kernel_rfl) dG aS bS res (fun x y=>r x.1) (fun x y=>g (fun c z=>req c z) (fun x=>some (res x)) x.1) (fun _ _=>by kernel_rfl) (by
 intro x y
 show J _ (g chk (fun x=>(true,x)) x.1) (g (fun c z=>req c z) (fun x=>some (res x)) x.1)
 unfold g
 with_reducible repeat (first|(apply J.lt; intro _)|apply J.rq|apply J.bif|exact J.rt rfl))
end bT
namespace bX
abbrev X:Type:=(Option ai)×Int×Bool
def res (x:(Option ai)×Int×Bool):Res:=⟨[.val ⟨.ref au,x.1⟩,.val ⟨.int .i64,x.2.1⟩,.val ⟨.bool,x.2.2⟩],[],[]⟩
def brn (w:Bool×X):Brn Res:= .one w.1 (res w.2)
theorem dI (w:Bool×X):(brn w).res=(w.1,res w.2):=rfl
def g {Z:Type} (rq:Bool→Z→Z) (rt:X→Z) (which:Int):Z:=
lt (fu.r which) fun w7=>
rq w7.1<|
lt (kR.r w7.2) fun w1059=>
bif Nat.beq w1059.2.1 0 then
rq w1059.1<|
lt (iD.r w7.2) fun w1065=>
rq w1065.1<|
lt (bT.r w1065.2) fun w1160=>
rq w1160.1<|
lt (w1059.2.2.1.2== 0) fun (v1161:Bool)=>
rt (w1059.2.2.1.1,w1160.2.1,v1161)
else
rq w1059.1<|
lt (iD.r w7.2) fun w1162=>
rq w1162.1<|
lt (bT.r w1162.2) fun w1163=>
rq w1163.1<|
lt (w1059.2.2.2.1== 0) fun (v1164:Bool)=>
rt ((some w1059.2.2.2.2),w1163.2.1,v1164)
def r (which:Int):Bool×X:=g chk (fun x=>(true,x)) which
def D:aL:=Dof (P:=Tryz.prog) [fu.ent,kR.ent,iD.ent,bT.ent]
def tab:List (Nat×LE Res):= []
theorem run (which:Int):gX E0 [true,true,true] D (iw E0 D tab 9) Tryz.f6 (codeOf Tryz.f6) [.val ⟨.int .i64,which⟩] []=g (fun c z=>req c z) (fun x=>some (res x)) which:=by kernel_rfl
theorem rel (which:Int):J (fun w z=>z=some (res w)) (g chk (fun x=>(true,x)) which) (g (fun c z=>req c z) (fun x=>some (res x)) which):=by
 unfold g
 with_reducible repeat (first|(apply J.lt; intro _)|apply J.rq|apply J.bif|exact J.rt rfl)
theorem ok:ol Tryz.f6=true:=by kernel_rfl
abbrev aS:List AS:= [.one (.val (.int .i64))]
abbrev bS:List Ty:= []
def F (x:ASs aS) (y:Bs bS):Brn Res:=brn (r x.1)
theorem good (x:ASs aS) (y:Bs bS) (h:(F x y).res.1=true):Good Tryz.prog 6 (ASs.mk aS x) (Bs.mk bS y) (F x y).res.2:=
 fI hE0 (aC _) Tryz.func6 ok aJ dI (run x.1) (rel x.1) h
def ent:Ent Tryz.prog:=⟨6,shF aS bS F,bW good⟩
def ro:Int→Bool×X:=Classical.choose (⟨r,rfl⟩:∃ q:Int→Bool×X,q=r)
theorem iF:ro=r:=Classical.choose_spec (⟨r,rfl⟩:∃ q:Int→Bool×X,q=r)
def FO (x:ASs aS) (y:Bs bS):Brn Res:=brn (ro x.1)
theorem mQ:FO=F:=by unfold FO F; rw [iF]
def rR:Ent Tryz.prog:=⟨6,shF aS bS FO,bW (by rw [mQ]; exact good)⟩
end bX
namespace cO
abbrev X:Type:=(List Int)
def res (x:(List Int)):Res:=⟨[.val ⟨.arr 4 (.int .u64),x⟩],[],[]⟩
abbrev sh0:List (Nat×Sh):= [(1,.pb 500000 (.arr 256 .bool) []),(2,.pb 500001 (.arr 4 (.int .u64)) []),(3,.pb 500002 (.arr 4 (.int .u64)) []),(4,.p (.int .i64))]
abbrev bx0:List (Nat×Ty):= [(500000,.arr 256 .bool),(500001,.arr 4 (.int .u64)),(500002,.arr 4 (.int .u64))]
abbrev bH:List (Nat×Ty):= [(500000,.arr 256 .bool),(500001,.arr 4 (.int .u64)),(500002,.arr 4 (.int .u64))]
abbrev bG:List (Nat×Sh):= []
abbrev bI:List (Nat×Ty):= []
abbrev dH:List (Nat×Ty):= []
abbrev X0:Type:=Unit×Unit×Unit×Int×Unit
abbrev Y0:Type:=(List Bool)×(List Int)×(List Int)×Unit
abbrev U0:Type:=Unit
abbrev V0:Type:=Unit
def g0 {Z:Type} (rq:Bool→Z→Z) (kn:X0→Y0→Z) (ke:Nat→X0→Y0→Z) (kr:U0→V0→Z) (x:X0) (y:Y0):Z:=
lt (ilt x.2.2.2.1 256) fun v1186=>
bif v1186 then
rq (ile (0:Int) x.2.2.2.1&&ilt x.2.2.2.1 256)<|
lt (y.1.getD x.2.2.2.1.toNat false) fun (v1187:Bool)=>
bif v1187 then
lt (IntKind.i64.wrap (x.2.2.2.1.tdiv 64)) fun v1188=>
lt (IntKind.i64.wrap (x.2.2.2.1.tdiv 64)) fun v1189=>
rq (ile (0:Int) v1189&&ilt v1189 4)<|
lt (y.2.2.1.getD v1189.toNat 0) fun (v1190:Int)=>
lt (x.2.2.2.1.tmod 64) fun (v1191:Int)=>
lt (IntKind.u64.wrap ((1:Int)*2^(min v1191.toNat 64))) fun v1192=>
rq (!ilt v1191 0)<|
lt (eZ .u64 (· ||| ·) v1190 v1192) fun v1193=>
rq (ile (0:Int) v1188&&ilt v1188 4)<|
lt (y.2.2.1.set v1188.toNat v1193) fun (v1194:(List Int))=>
lt (IntKind.i64.wrap (x.2.2.2.1+1)) fun v1195=>
kn ((),(),(),v1195,()) (y.1,y.2.1,v1194,())
else
lt (IntKind.i64.wrap (x.2.2.2.1+1)) fun v1196=>
kn ((),(),(),v1196,()) (y.1,y.2.1,y.2.2.1,())
else
ke 0 ((),(),(),x.2.2.2.1,()) (y.1,y.2.1,y.2.2.1,())
def fu0 (x:X0) (y:Y0):Nat:=((256:Int) - x.2.2.2.1).toNat+1
def l0 (x:X0) (y:Y0):Bool×Nat×X0×Y0×U0×V0:=rounds (fun rq kn ke kr x y=>g0 rq kn ke kr x y) () () (fu0 x y) x y
def g {Z:Type} (rq:Bool→Z→Z) (rt:X→Z) (b:(List Bool)):Z:=
lt (cO.l0 ((),(),(),0,()) (b,[0,0,0,0],[0,0,0,0],())) fun w1197=>
rq w1197.1<|
rt w1197.2.2.2.1.2.2.1
def r (b:(List Bool)):Bool×X:=g chk (fun x=>(true,x)) b
def D:aL:=Dof (P:=Tryz.prog) []
abbrev lf0:=dO (R:=Res) [1] (rounds (fun rq kn ke kr x y=>g0 rq kn ke kr x y) () ()) fu0
def tab:List (Nat×LE Res):= [(4,.typed (eY 25 sh0 bx0 bH bG bI (lf0)))]
theorem dF:Nonempty (Told E0 D tab Tryz.f52.ntmps (aI (codeOf Tryz.f52) 0) 25 sh0 bx0 bH bG bI lf0):=fG (sh:=sh0) (bx:=bx0) (ord:=bH) (shR:=bG) (bxR:=bI) dH (by kernel_rfl) (by kernel_rfl) (by kernel_rfl) [1] _ _ _ @g0 (fun _ _ _ _ _=>by kernel_rfl) (by
  intro _ _ _ _ _ _ _ h i k x y
  simp only [g0]
  with_reducible repeat (first|(apply J.lt; intro _)|apply J.rq|apply J.bif|exact h _ _|exact i _ (by decide) _ _|exact k (by decide) _ _))
theorem dG:fU E0 D tab Tryz.f52.ntmps (codeOf Tryz.f52):=dw (bs:= [aI (codeOf Tryz.f52) 0]) (by kernel_rfl) (aH (bY (by kernel_rfl) (dF)) bA)
abbrev aS:List AS:= [.one (.val (.arr 256 .bool))]
abbrev bS:List Ty:= []
def ent:Ent Tryz.prog:=bU (D:=D) (tab:=tab) hE0 (aC _) [true] Tryz.func52 (by kernel_rfl) dG aS bS res (fun x y=>r x.1) (fun x y=>g (fun c z=>req c z) (fun x=>some (res x)) x.1) (fun _ _=>by kernel_rfl) (by
 intro x y
 show J _ (g chk (fun x=>(true,x)) x.1) (g (fun c z=>req c z) (fun x=>some (res x)) x.1)
 unfold g
 with_reducible repeat (first|(apply J.lt; intro _)|apply J.rq|apply J.bif|exact J.rt rfl))
end cO
namespace bg
abbrev X:Type:=(List Int)
def res (x:(List Int)):Res:=⟨[.val ⟨.arr 4 (.int .u64),x⟩],[],[]⟩
abbrev sh0:List (Nat×Sh):= [(0,.p (.int .i64)),(2,.pb 500000 (.arr 4 (.int .u64)) []),(3,.pb 500001 (.arr 256 .bool) []),(4,.p (.int .i64))]
abbrev bx0:List (Nat×Ty):= [(500000,.arr 4 (.int .u64)),(500001,.arr 256 .bool)]
abbrev bH:List (Nat×Ty):= [(500000,.arr 4 (.int .u64)),(500001,.arr 256 .bool)]
abbrev bG:List (Nat×Sh):= []
abbrev bI:List (Nat×Ty):= []
abbrev dH:List (Nat×Ty):= []
abbrev X0:Type:=Int×Unit×Unit×Int×Unit
abbrev Y0:Type:=(List Int)×(List Bool)×Unit
abbrev U0:Type:=Unit
abbrev V0:Type:=Unit
def g0 {Z:Type} (rq:Bool→Z→Z) (kn:X0→Y0→Z) (ke:Nat→X0→Y0→Z) (kr:U0→V0→Z) (x:X0) (y:Y0):Z:=
lt (ilt x.2.2.2.1 63) fun v1169=>
bif v1169 then
lt (ilt 0 x.1) fun v1170=>
bif v1170 then
lt (x.1.fdiv (2^(min x.2.2.2.1.toNat 64))) fun (v1171:Int)=>
rq (!ilt x.2.2.2.1 0)<|
lt (eZ .i64 (· &&& ·) v1171 (1:Int)) fun v1172=>
lt (v1172== 1) fun (v1173:Bool)=>
rq (ile (0:Int) x.2.2.2.1&&ilt x.2.2.2.1 256)<|
lt (y.2.1.set x.2.2.2.1.toNat v1173) fun (v1174:(List Bool))=>
lt (IntKind.i64.wrap (x.2.2.2.1+1)) fun v1175=>
kn (x.1,(),(),v1175,()) (y.1,v1174,())
else
ke 0 (x.1,(),(),x.2.2.2.1,()) (y.1,y.2.1,())
else
ke 0 (x.1,(),(),x.2.2.2.1,()) (y.1,y.2.1,())
def fu0 (x:X0) (y:Y0):Nat:=((63:Int) - x.2.2.2.1).toNat+1
def l0 (x:X0) (y:Y0):Bool×Nat×X0×Y0×U0×V0:=rounds (fun rq kn ke kr x y=>g0 rq kn ke kr x y) () () (fu0 x y) x y
def g {Z:Type} (rq:Bool→Z→Z) (rt:X→Z) (n:Int):Z:=
lt (List.replicate 256 false) fun (v1166:(List Bool))=>
lt (List.replicate 256 false) fun (v1167:(List Bool))=>
lt (bg.l0 (n,(),(),0,()) ([0,0,0,0],v1166,())) fun w1176=>
rq w1176.1<|
lt (cO.r w1176.2.2.2.1.2.1) fun w1198=>
rq w1198.1<|
rt w1198.2
def r (n:Int):Bool×X:=g chk (fun x=>(true,x)) n
def D:aL:=Dof (P:=Tryz.prog) [cO.ent]
abbrev lf0:=dO (R:=Res) [1] (rounds (fun rq kn ke kr x y=>g0 rq kn ke kr x y) () ()) fu0
def tab:List (Nat×LE Res):= [(4,.typed (eY 23 sh0 bx0 bH bG bI (lf0)))]
theorem dF:Nonempty (Told E0 D tab Tryz.f28.ntmps (aI (codeOf Tryz.f28) 0) 23 sh0 bx0 bH bG bI lf0):=fG (sh:=sh0) (bx:=bx0) (ord:=bH) (shR:=bG) (bxR:=bI) dH (by kernel_rfl) (by kernel_rfl) (by kernel_rfl) [1] _ _ _ @g0 (fun _ _ _ _ _=>by kernel_rfl) (by
  intro _ _ _ _ _ _ _ h i k x y
  simp only [g0]
  with_reducible repeat (first|(apply J.lt; intro _)|apply J.rq|apply J.bif|exact h _ _|exact i _ (by decide) _ _|exact k (by decide) _ _))
theorem dG:fU E0 D tab Tryz.f28.ntmps (codeOf Tryz.f28):=dw (bs:= [aI (codeOf Tryz.f28) 0]) (by kernel_rfl) (aH (bY (by kernel_rfl) (dF)) bA)
abbrev aS:List AS:= [.one (.val (.int .i64))]
abbrev bS:List Ty:= []
def ent:Ent Tryz.prog:=bU (D:=D) (tab:=tab) hE0 (aC _) [true] Tryz.func28 (by kernel_rfl) dG aS bS res (fun x y=>r x.1) (fun x y=>g (fun c z=>req c z) (fun x=>some (res x)) x.1) (fun _ _=>by kernel_rfl) (by
 intro x y
 show J _ (g chk (fun x=>(true,x)) x.1) (g (fun c z=>req c z) (fun x=>some (res x)) x.1)
 unfold g
 with_reducible repeat (first|(apply J.lt; intro _)|apply J.rq|apply J.bif|exact J.rt rfl))
end bg
namespace aT
abbrev X:Type:=(List Int)
def res (x:(List Int)):Res:=⟨[.val ⟨.arr 4 (.int .u64),x⟩],[],[]⟩
def brn (w:Bool×X):Brn Res:= .one w.1 (res w.2)
theorem dI (w:Bool×X):(brn w).res=(w.1,res w.2):=rfl
def g {Z:Type} (rq:Bool→Z→Z) (rt:X→Z) (n:Int):Z:=
lt (bg.r n) fun w1199=>
rq w1199.1<|
rt w1199.2
def r (n:Int):Bool×X:=g chk (fun x=>(true,x)) n
def D:aL:=Dof (P:=Tryz.prog) [bg.ent]
def tab:List (Nat×LE Res):= []
theorem run (n:Int):gX E0 [true] D (iw E0 D tab 9) Tryz.f18 (codeOf Tryz.f18) [.val ⟨.int .i64,n⟩] []=g (fun c z=>req c z) (fun x=>some (res x)) n:=by kernel_rfl
theorem rel (n:Int):J (fun w z=>z=some (res w)) (g chk (fun x=>(true,x)) n) (g (fun c z=>req c z) (fun x=>some (res x)) n):=by
 unfold g
 with_reducible repeat (first|(apply J.lt; intro _)|apply J.rq|apply J.bif|exact J.rt rfl)
theorem ok:ol Tryz.f18=true:=by kernel_rfl
abbrev aS:List AS:= [.one (.val (.int .i64))]
abbrev bS:List Ty:= []
def F (x:ASs aS) (y:Bs bS):Brn Res:=brn (r x.1)
theorem good (x:ASs aS) (y:Bs bS) (h:(F x y).res.1=true):Good Tryz.prog 18 (ASs.mk aS x) (Bs.mk bS y) (F x y).res.2:=
 fI hE0 (aC _) Tryz.func18 ok aJ dI (run x.1) (rel x.1) h
def ent:Ent Tryz.prog:=⟨18,shF aS bS F,bW good⟩
def ro:Int→Bool×X:=Classical.choose (⟨r,rfl⟩:∃ q:Int→Bool×X,q=r)
theorem iF:ro=r:=Classical.choose_spec (⟨r,rfl⟩:∃ q:Int→Bool×X,q=r)
def FO (x:ASs aS) (y:Bs bS):Brn Res:=brn (ro x.1)
theorem mQ:FO=F:=by unfold FO F; rw [iF]
def rR:Ent Tryz.prog:=⟨18,shF aS bS FO,bW (by rw [mQ]; exact good)⟩
end aT
namespace bn
abbrev X:Type:=(Option aG)
def res (x:(Option aG)):Res:=⟨[.val ⟨.ref dS,x⟩],[],[]⟩
def g {Z:Type} (rq:Bool→Z→Z) (rt:X→Z) (gx:(Option ai)):Z:=
bif gx.isNone then
rt none
else
lt (gx.getD ((none,(none,())),([0,0,0,0],()))) fun (v1202:ai)=>
rq gx.isSome<|
rt v1202.1.2.1
def r (gx:(Option ai)):Bool×X:=g chk (fun x=>(true,x)) gx
def D:aL:=Dof (P:=Tryz.prog) []
def tab:List (Nat×LE Res):= []
abbrev aS:List AS:= [.one (.val (.ref au))]
abbrev bS:List Ty:= []
def ent:Ent Tryz.prog:=bU (D:=D) (tab:=tab) hE0 (aC _) [true] Tryz.func24 (by kernel_rfl) aJ aS bS res (fun x y=>r x.1) (fun x y=>g (fun c z=>req c z) (fun x=>some (res x)) x.1) (fun _ _=>by kernel_rfl) (by
 intro x y
 show J _ (g chk (fun x=>(true,x)) x.1) (g (fun c z=>req c z) (fun x=>some (res x)) x.1)
 unfold g
 with_reducible repeat (first|(apply J.lt; intro _)|apply J.rq|apply J.bif|exact J.rt rfl))
end bn
namespace jA
abbrev X:Type:=(List Int)
def res (x:(List Int)):Res:=⟨[.val ⟨.arr 4 (.int .u64),x⟩],[],[]⟩
def g {Z:Type} (rq:Bool→Z→Z) (rt:X→Z) (rx:(Option aG)) (a:(List Int)) (b:(List Int)):Z:=
lt (cZ.r rx) fun w1212=>
rq w1212.1<|
lt (!w1212.2) fun (v1213:Bool)=>
bif v1213 then
rt [0,0,0,0]
else
lt (gH.r rx a) fun w1214=>
rq w1214.1<|
lt (gZ.r rx b) fun w1215=>
rq w1215.1<|
lt (aY.r rx w1214.2 w1215.2) fun w1216=>
rq w1216.1<|
rt w1216.2
def r (rx:(Option aG)) (a:(List Int)) (b:(List Int)):Bool×X:=g chk (fun x=>(true,x)) rx a b
def D:aL:=Dof (P:=Tryz.prog) [cZ.ent,gH.ent,gZ.ent,aY.ent]
def tab:List (Nat×LE Res):= []
abbrev aS:List AS:= [.one (.val (.ref dS)),.one (.val (.arr 4 (.int .u64))),.one (.val (.arr 4 (.int .u64)))]
abbrev bS:List Ty:= []
def ent:Ent Tryz.prog:=bU (D:=D) (tab:=tab) hE0 (aC _) [true] Tryz.func80 (by kernel_rfl) aJ aS bS res (fun x y=>r x.1 x.2.1 x.2.2.1) (fun x y=>g (fun c z=>req c z) (fun x=>some (res x)) x.1 x.2.1 x.2.2.1) (fun _ _=>by kernel_rfl) (by
 intro x y
 show J _ (g chk (fun x=>(true,x)) x.1 x.2.1 x.2.2.1) (g (fun c z=>req c z) (fun x=>some (res x)) x.1 x.2.1 x.2.2.1)
 unfold g
 with_reducible repeat (first|(apply J.lt; intro _)|apply J.rq|apply J.bif|exact J.rt rfl))
end jA
namespace gK
abbrev X:Type:=(List Int)
def res (x:(List Int)):Res:=⟨[.val ⟨.arr 4 (.int .u64),x⟩],[],[]⟩
def g {Z:Type} (rq:Bool→Z→Z) (rt:X→Z) (gx:(Option ai)) (a:(List Int)) (b:(List Int)):Z:=
lt (bn.r gx) fun w1211=>
rq w1211.1<|
lt (jA.r w1211.2 a b) fun w1217=>
rq w1217.1<|
rt w1217.2
def r (gx:(Option ai)) (a:(List Int)) (b:(List Int)):Bool×X:=g chk (fun x=>(true,x)) gx a b
def D:aL:=Dof (P:=Tryz.prog) [bn.ent,jA.ent]
def tab:List (Nat×LE Res):= []
abbrev aS:List AS:= [.one (.val (.ref au)),.one (.val (.arr 4 (.int .u64))),.one (.val (.arr 4 (.int .u64)))]
abbrev bS:List Ty:= []
def ent:Ent Tryz.prog:=bU (D:=D) (tab:=tab) hE0 (aC _) [true] Tryz.func48 (by kernel_rfl) aJ aS bS res (fun x y=>r x.1 x.2.1 x.2.2.1) (fun x y=>g (fun c z=>req c z) (fun x=>some (res x)) x.1 x.2.1 x.2.2.1) (fun _ _=>by kernel_rfl) (by
 intro x y
 show J _ (g chk (fun x=>(true,x)) x.1 x.2.1 x.2.2.1) (g (fun c z=>req c z) (fun x=>some (res x)) x.1 x.2.1 x.2.2.1)
 unfold g
 with_reducible repeat (first|(apply J.lt; intro _)|apply J.rq|apply J.bif|exact J.rt rfl))
end gK
namespace kQ
abbrev X:Type:=(List Int)
def res (x:(List Int)):Res:=⟨[.val ⟨.arr 4 (.int .u64),x⟩],[],[]⟩
def g {Z:Type} (rq:Bool→Z→Z) (rt:X→Z) (rx:(Option aG)):Z:=
lt (cZ.r rx) fun w1219=>
rq w1219.1<|
lt (!w1219.2) fun (v1220:Bool)=>
bif v1220 then
rt [0,0,0,0]
else
lt (rx.getD dB) fun (v1221:aG)=>
rq rx.isSome<|
rt v1221.1
def r (rx:(Option aG)):Bool×X:=g chk (fun x=>(true,x)) rx
def D:aL:=Dof (P:=Tryz.prog) [cZ.ent]
def tab:List (Nat×LE Res):= []
abbrev aS:List AS:= [.one (.val (.ref dS))]
abbrev bS:List Ty:= []
def ent:Ent Tryz.prog:=bU (D:=D) (tab:=tab) hE0 (aC _) [true] Tryz.func107 (by kernel_rfl) aJ aS bS res (fun x y=>r x.1) (fun x y=>g (fun c z=>req c z) (fun x=>some (res x)) x.1) (fun _ _=>by kernel_rfl) (by
 intro x y
 show J _ (g chk (fun x=>(true,x)) x.1) (g (fun c z=>req c z) (fun x=>some (res x)) x.1)
 unfold g
 with_reducible repeat (first|(apply J.lt; intro _)|apply J.rq|apply J.bif|exact J.rt rfl))
end kQ
namespace fF
abbrev X:Type:=(List Int)
def res (x:(List Int)):Res:=⟨[.val ⟨.arr 4 (.int .u64),x⟩],[],[]⟩
def g {Z:Type} (rq:Bool→Z→Z) (rt:X→Z) (gx:(Option ai)):Z:=
lt (bn.r gx) fun w1218=>
rq w1218.1<|
lt (kQ.r w1218.2) fun w1222=>
rq w1222.1<|
rt w1222.2
def r (gx:(Option ai)):Bool×X:=g chk (fun x=>(true,x)) gx
def D:aL:=Dof (P:=Tryz.prog) [bn.ent,kQ.ent]
def tab:List (Nat×LE Res):= []
abbrev aS:List AS:= [.one (.val (.ref au))]
abbrev bS:List Ty:= []
def ent:Ent Tryz.prog:=bU (D:=D) (tab:=tab) hE0 (aC _) [true] Tryz.func79 (by kernel_rfl) aJ aS bS res (fun x y=>r x.1) (fun x y=>g (fun c z=>req c z) (fun x=>some (res x)) x.1) (fun _ _=>by kernel_rfl) (by
 intro x y
 show J _ (g chk (fun x=>(true,x)) x.1) (g (fun c z=>req c z) (fun x=>some (res x)) x.1)
 unfold g
 with_reducible repeat (first|(apply J.lt; intro _)|apply J.rq|apply J.bif|exact J.rt rfl))
end fF
namespace kM
abbrev X:Type:=(List Int)×Int
def res (x:(List Int)×Int):Res:=⟨[.val ⟨.arr 4 (.int .u64),x.1⟩,.val ⟨.int .i64,x.2⟩],[],[]⟩
def g {Z:Type} (rq:Bool→Z→Z) (rt:X→Z) (a:(List Int)) (b:(List Int)) (m:(List Int)):Z:=
lt (oV.r a b) fun w1224=>
rq w1224.1<|
lt (dm.r w1224.2.2) fun w1225=>
rq w1225.1<|
lt (fJ.r w1224.2.1 w1225.2 m) fun w1226=>
rq w1226.1<|
rt (w1226.2.1,w1226.2.2)
def r (a:(List Int)) (b:(List Int)) (m:(List Int)):Bool×X:=g chk (fun x=>(true,x)) a b m
def D:aL:=Dof (P:=Tryz.prog) [oV.ent,dm.ent,fJ.ent]
def tab:List (Nat×LE Res):= []
abbrev aS:List AS:= [.one (.val (.arr 4 (.int .u64))),.one (.val (.arr 4 (.int .u64))),.one (.val (.arr 4 (.int .u64)))]
abbrev bS:List Ty:= []
def ent:Ent Tryz.prog:=bU (D:=D) (tab:=tab) hE0 (aC _) [true,true] Tryz.func78 (by kernel_rfl) aJ aS bS res (fun x y=>r x.1 x.2.1 x.2.2.1) (fun x y=>g (fun c z=>req c z) (fun x=>some (res x)) x.1 x.2.1 x.2.2.1) (fun _ _=>by kernel_rfl) (by
 intro x y
 show J _ (g chk (fun x=>(true,x)) x.1 x.2.1 x.2.2.1) (g (fun c z=>req c z) (fun x=>some (res x)) x.1 x.2.1 x.2.2.1)
 unfold g
 with_reducible repeat (first|(apply J.lt; intro _)|apply J.rq|apply J.bif|exact J.rt rfl))
end kM
namespace gL
abbrev X:Type:=(List Int)
def res (x:(List Int)):Res:=⟨[.val ⟨.arr 4 (.int .u64),x⟩],[],[]⟩
def g {Z:Type} (rq:Bool→Z→Z) (rt:X→Z) (gx:(Option ai)) (a:(List Int)) (b:(List Int)):Z:=
lt (fF.r gx) fun w1223=>
rq w1223.1<|
lt (kM.r a b w1223.2) fun w1227=>
rq w1227.1<|
rt w1227.2.1
def r (gx:(Option ai)) (a:(List Int)) (b:(List Int)):Bool×X:=g chk (fun x=>(true,x)) gx a b
def D:aL:=Dof (P:=Tryz.prog) [fF.ent,kM.ent]
def tab:List (Nat×LE Res):= []
abbrev aS:List AS:= [.one (.val (.ref au)),.one (.val (.arr 4 (.int .u64))),.one (.val (.arr 4 (.int .u64)))]
abbrev bS:List Ty:= []
def ent:Ent Tryz.prog:=bU (D:=D) (tab:=tab) hE0 (aC _) [true] Tryz.func47 (by kernel_rfl) aJ aS bS res (fun x y=>r x.1 x.2.1 x.2.2.1) (fun x y=>g (fun c z=>req c z) (fun x=>some (res x)) x.1 x.2.1 x.2.2.1) (fun _ _=>by kernel_rfl) (by
 intro x y
 show J _ (g chk (fun x=>(true,x)) x.1 x.2.1 x.2.2.1) (g (fun c z=>req c z) (fun x=>some (res x)) x.1 x.2.1 x.2.2.1)
 unfold g
 with_reducible repeat (first|(apply J.lt; intro _)|apply J.rq|apply J.bif|exact J.rt rfl))
end gL
end Go.Own
