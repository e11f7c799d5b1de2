/- What functions compute, printed by wip/gen/gen2.py. -/
import Derived.Test.YtnighkkdmgmcnaaGreatG1
set_option linter.unusedVariables false
set_option linter.unusedSimpArgs false
set_option maxRecDepth 100000
noncomputable section
namespace Go.Own
open Go.Proofs Go.Proofs.YtnighkkdmgmcnaaGreat
namespace ny
abbrev X:Type:=(Option aJ)×Int
def res (x:(Option aJ)×Int):Res:=⟨[.val ⟨.ref eF,x.1⟩,.val ⟨.int .i64,x.2⟩],[],[]⟩
def g {Z:Type} (rq:Bool→Z→Z) (rt:X→Z) (m:(List Int)):Z:=
lt (m.getD 0 0) fun (v47:Int)=>
lt (eU .u64 (· &&& ·) v47 (1:Int)) fun v48=>
lt (v48== 0) fun (v49:Bool)=>
bif v49 then
rt (none,1)
else
lt (dM.r 1) fun w52=>
rq w52.1<|
lt (ieq (m.getD 0 0) (w52.2.getD 0 0)&&(ieq (m.getD 1 0) (w52.2.getD 1 0)&&(ieq (m.getD 2 0) (w52.2.getD 2 0)&&(ieq (m.getD 3 0) (w52.2.getD 3 0)&&true)))) fun v53=>
bif v53 then
rt (none,1)
else
lt (m.getD 0 0) fun (v54:Int)=>
lt (m.getD 0 0) fun (v75:Int)=>
lt (IntKind.u64.wrap (v75*v54)) fun v76=>
lt (IntKind.u64.wrap ((2:Int) - v76)) fun v77=>
lt (IntKind.u64.wrap (v54*v77)) fun v78=>
lt (m.getD 0 0) fun (v79:Int)=>
lt (IntKind.u64.wrap (v79*v78)) fun v80=>
lt (IntKind.u64.wrap ((2:Int) - v80)) fun v81=>
lt (IntKind.u64.wrap (v78*v81)) fun v82=>
lt (m.getD 0 0) fun (v83:Int)=>
lt (IntKind.u64.wrap (v83*v82)) fun v84=>
lt (IntKind.u64.wrap ((2:Int) - v84)) fun v85=>
lt (IntKind.u64.wrap (v82*v85)) fun v86=>
lt (m.getD 0 0) fun (v87:Int)=>
lt (IntKind.u64.wrap (v87*v86)) fun v88=>
lt (IntKind.u64.wrap ((2:Int) - v88)) fun v89=>
lt (IntKind.u64.wrap (v86*v89)) fun v90=>
lt (m.getD 0 0) fun (v91:Int)=>
lt (IntKind.u64.wrap (v91*v90)) fun v92=>
lt (IntKind.u64.wrap ((2:Int) - v92)) fun v93=>
lt (IntKind.u64.wrap (v90*v93)) fun v94=>
lt (IntKind.u64.wrap (0 - v94)) fun v95=>
lt (dM.r 1) fun w96=>
rq w96.1<|
lt (gM.r [0,0,0,0] w96.2 m) fun w521=>
rq w521.1<|
lt (jQ.r w521.2.1 w521.2.1 m) fun w612=>
rq w612.1<|
rt ((some (m,(v95,(w521.2.1,(w612.2.1,()))))),0)
def r (m:(List Int)):Bool×X:=g chk (fun x=>(true,x)) m
def D:aH:=Dof (P:=Tryz.prog) [dM.ent,gM.ent,jQ.ent]
def tab:List (Nat×LE Res):= []
abbrev aS:List AS:= [.one (.val (.arr 4 (.int .u64)))]
abbrev bS:List Ty:= []
def ent:Ent Tryz.prog:=bH (D:=D) (tab:=tab) hE0 (ay _) [true,true] Tryz.func56 (by kernel_rfl) aC aS bS res (fun x y=>r x.1) (fun x y=>g (fun c z=>req c z) (fun x=>some (res x)) x.1) (fun _ _=>by kernel_rfl) (by
 intro x y
 show J _ (g chk (fun x=>(true,x)) x.1) (g (fun c z=>req c z) (fun x=>some (res x)) x.1)
 unfold g
 with_reducible repeat (first|(apply J.lt; intro _)|apply J.rq|apply J.bif|exact J.rt rfl))
end ny
namespace lT
abbrev X:Type:=(List Int)×(List Int)×Int
def res (x:(List Int)×(List Int)×Int):Res:=⟨[.val ⟨.arr 4 (.int .u64),x.1⟩,.val ⟨.arr 4 (.int .u64),x.2.1⟩,.val ⟨.int .i64,x.2.2⟩],[],[]⟩
def g {Z:Type} (rq:Bool→Z→Z) (rt:X→Z) (a:(List Int)) (b:(List Int)):Z:=
lt (ieq (b.getD 0 0) 0&&(ieq (b.getD 1 0) 0&&(ieq (b.getD 2 0) 0&&(ieq (b.getD 3 0) 0&&true)))) fun v620=>
bif v620 then
rt ([0,0,0,0],[0,0,0,0],1)
else
lt (dA.r a [0,0,0,0] b) fun w621=>
rq w621.1<|
rt (w621.2.1,w621.2.2,0)
def r (a:(List Int)) (b:(List Int)):Bool×X:=g chk (fun x=>(true,x)) a b
def D:aH:=Dof (P:=Tryz.prog) [dA.ent]
def tab:List (Nat×LE Res):= []
abbrev aS:List AS:= [.one (.val (.arr 4 (.int .u64))),.one (.val (.arr 4 (.int .u64)))]
abbrev bS:List Ty:= []
def ent:Ent Tryz.prog:=bH (D:=D) (tab:=tab) hE0 (ay _) [true,true,true] Tryz.func121 (by kernel_rfl) aC aS bS res (fun x y=>r x.1 x.2.1) (fun x y=>g (fun c z=>req c z) (fun x=>some (res x)) x.1 x.2.1) (fun _ _=>by kernel_rfl) (by
 intro x y
 show J _ (g chk (fun x=>(true,x)) x.1 x.2.1) (g (fun c z=>req c z) (fun x=>some (res x)) x.1 x.2.1)
 unfold g
 with_reducible repeat (first|(apply J.lt; intro _)|apply J.rq|apply J.bif|exact J.rt rfl))
end lT
namespace dS
abbrev X:Type:=Bool
def res (x:Bool):Res:=⟨[.val ⟨.bool,x⟩],[],[]⟩
def g {Z:Type} (rq:Bool→Z→Z) (rt:X→Z) (rx:(Option aJ)):Z:=
lt (!rx.isNone) fun (v629:Bool)=>
bif v629 then
lt (rx.getD dV) fun (v630:aJ)=>
rq rx.isSome<|
lt (v630.2.1 != 0) fun (v631:Bool)=>
rt v631
else
rt false
def r (rx:(Option aJ)):Bool×X:=g chk (fun x=>(true,x)) rx
def D:aH:=Dof (P:=Tryz.prog) []
def tab:List (Nat×LE Res):= []
abbrev aS:List AS:= [.one (.val (.ref eF))]
abbrev bS:List Ty:= []
def ent:Ent Tryz.prog:=bH (D:=D) (tab:=tab) hE0 (ay _) [true] Tryz.func91 (by kernel_rfl) aC aS bS res (fun x y=>r x.1) (fun x y=>g (fun c z=>req c z) (fun x=>some (res x)) x.1) (fun _ _=>by kernel_rfl) (by
 intro x y
 show J _ (g chk (fun x=>(true,x)) x.1) (g (fun c z=>req c z) (fun x=>some (res x)) x.1)
 unfold g
 with_reducible repeat (first|(apply J.lt; intro _)|apply J.rq|apply J.bif|exact J.rt rfl))
end dS
namespace je
abbrev X:Type:=(List Int)
def res (x:(List Int)):Res:=⟨[.val ⟨.arr 4 (.int .u64),x⟩],[],[]⟩
def g {Z:Type} (rq:Bool→Z→Z) (rt:X→Z) (rx:(Option aJ)) (a:(List Int)):Z:=
lt (rx.getD dV) fun (v645:aJ)=>
rq rx.isSome<|
lt (jJ.r a v645.1) fun w646=>
rq w646.1<|
lt (ilt w646.2 0) fun v647=>
bif v647 then
rt a
else
lt (rx.getD dV) fun (v648:aJ)=>
rq rx.isSome<|
lt (gM.r a [0,0,0,0] v648.1) fun w649=>
rq w649.1<|
rt w649.2.1
def r (rx:(Option aJ)) (a:(List Int)):Bool×X:=g chk (fun x=>(true,x)) rx a
def D:aH:=Dof (P:=Tryz.prog) [jJ.ent,gM.ent]
def tab:List (Nat×LE Res):= []
abbrev aS:List AS:= [.one (.val (.ref eF)),.one (.val (.arr 4 (.int .u64)))]
abbrev bS:List Ty:= []
def ent:Ent Tryz.prog:=bH (D:=D) (tab:=tab) hE0 (ay _) [true] Tryz.func143 (by kernel_rfl) aC aS bS res (fun x y=>r x.1 x.2.1) (fun x y=>g (fun c z=>req c z) (fun x=>some (res x)) x.1 x.2.1) (fun _ _=>by kernel_rfl) (by
 intro x y
 show J _ (g chk (fun x=>(true,x)) x.1 x.2.1) (g (fun c z=>req c z) (fun x=>some (res x)) x.1 x.2.1)
 unfold g
 with_reducible repeat (first|(apply J.lt; intro _)|apply J.rq|apply J.bif|exact J.rt rfl))
end je
namespace gX
abbrev X:Type:=(List Int)
def res (x:(List Int)):Res:=⟨[.val ⟨.arr 6 (.int .u64),x⟩],[],[]⟩
def g {Z:Type} (rq:Bool→Z→Z) (rt:X→Z) (t:(List Int)) (xx:Int) (b:(List Int)):Z:=
lt (b.getD 0 0) fun (v693:Int)=>
lt (iF.r xx v693) fun w694=>
rq w694.1<|
lt (t.getD 0 0) fun (v695:Int)=>
lt ((w694.2.2+v695+(0:Int))%18446744073709551616) fun (v696:Int)=>
lt ((w694.2.2+v695+(0:Int))/18446744073709551616) fun (v697:Int)=>
rq (((ile 0 w694.2.2&&ile 0 v695)&&ile 0 (0:Int))&&ile (0:Int) 1)<|
lt (IntKind.u64.wrap (w694.2.1+v697)) fun v698=>
lt ((v696+(0:Int)+(0:Int))%18446744073709551616) fun (v699:Int)=>
lt ((v696+(0:Int)+(0:Int))/18446744073709551616) fun (v700:Int)=>
rq (((ile 0 v696&&ile 0 (0:Int))&&ile 0 (0:Int))&&ile (0:Int) 1)<|
lt (IntKind.u64.wrap (v698+v700)) fun v701=>
lt (t.set 0 v699) fun (v702:(List Int))=>
lt (b.getD 1 0) fun (v703:Int)=>
lt (iF.r xx v703) fun w704=>
rq w704.1<|
lt (v702.getD 1 0) fun (v705:Int)=>
lt ((w704.2.2+v705+(0:Int))%18446744073709551616) fun (v706:Int)=>
lt ((w704.2.2+v705+(0:Int))/18446744073709551616) fun (v707:Int)=>
rq (((ile 0 w704.2.2&&ile 0 v705)&&ile 0 (0:Int))&&ile (0:Int) 1)<|
lt (IntKind.u64.wrap (w704.2.1+v707)) fun v708=>
lt ((v706+v701+(0:Int))%18446744073709551616) fun (v709:Int)=>
lt ((v706+v701+(0:Int))/18446744073709551616) fun (v710:Int)=>
rq (((ile 0 v706&&ile 0 v701)&&ile 0 (0:Int))&&ile (0:Int) 1)<|
lt (IntKind.u64.wrap (v708+v710)) fun v711=>
lt (v702.set 1 v709) fun (v712:(List Int))=>
lt (b.getD 2 0) fun (v713:Int)=>
lt (iF.r xx v713) fun w714=>
rq w714.1<|
lt (v712.getD 2 0) fun (v715:Int)=>
lt ((w714.2.2+v715+(0:Int))%18446744073709551616) fun (v716:Int)=>
lt ((w714.2.2+v715+(0:Int))/18446744073709551616) fun (v717:Int)=>
rq (((ile 0 w714.2.2&&ile 0 v715)&&ile 0 (0:Int))&&ile (0:Int) 1)<|
lt (IntKind.u64.wrap (w714.2.1+v717)) fun v718=>
lt ((v716+v711+(0:Int))%18446744073709551616) fun (v719:Int)=>
lt ((v716+v711+(0:Int))/18446744073709551616) fun (v720:Int)=>
rq (((ile 0 v716&&ile 0 v711)&&ile 0 (0:Int))&&ile (0:Int) 1)<|
lt (IntKind.u64.wrap (v718+v720)) fun v721=>
lt (v712.set 2 v719) fun (v722:(List Int))=>
lt (b.getD 3 0) fun (v723:Int)=>
lt (iF.r xx v723) fun w724=>
rq w724.1<|
lt (v722.getD 3 0) fun (v725:Int)=>
lt ((w724.2.2+v725+(0:Int))%18446744073709551616) fun (v726:Int)=>
lt ((w724.2.2+v725+(0:Int))/18446744073709551616) fun (v727:Int)=>
rq (((ile 0 w724.2.2&&ile 0 v725)&&ile 0 (0:Int))&&ile (0:Int) 1)<|
lt (IntKind.u64.wrap (w724.2.1+v727)) fun v728=>
lt ((v726+v721+(0:Int))%18446744073709551616) fun (v729:Int)=>
lt ((v726+v721+(0:Int))/18446744073709551616) fun (v730:Int)=>
rq (((ile 0 v726&&ile 0 v721)&&ile 0 (0:Int))&&ile (0:Int) 1)<|
lt (IntKind.u64.wrap (v728+v730)) fun v731=>
lt (v722.set 3 v729) fun (v732:(List Int))=>
lt (v732.getD 4 0) fun (v733:Int)=>
lt ((v733+v731+(0:Int))%18446744073709551616) fun (v734:Int)=>
lt ((v733+v731+(0:Int))/18446744073709551616) fun (v735:Int)=>
rq (((ile 0 v733&&ile 0 v731)&&ile 0 (0:Int))&&ile (0:Int) 1)<|
lt (v732.set 4 v734) fun (v736:(List Int))=>
lt (v736.getD 5 0) fun (v737:Int)=>
lt (IntKind.u64.wrap (v737+v735)) fun v738=>
lt (v736.set 5 v738) fun (v739:(List Int))=>
rt v739
def r (t:(List Int)) (xx:Int) (b:(List Int)):Bool×X:=g chk (fun x=>(true,x)) t xx b
def D:aH:=Dof (P:=Tryz.prog) [iF.ent,qz]
def tab:List (Nat×LE Res):= []
abbrev aS:List AS:= [.one (.val (.arr 6 (.int .u64))),.one (.val (.int .u64)),.one (.val (.arr 4 (.int .u64)))]
abbrev bS:List Ty:= []
def ent:Ent Tryz.prog:=bH (D:=D) (tab:=tab) hE0 (ay _) [true] Tryz.func132 (by kernel_rfl) aC aS bS res (fun x y=>r x.1 x.2.1 x.2.2.1) (fun x y=>g (fun c z=>req c z) (fun x=>some (res x)) x.1 x.2.1 x.2.2.1) (fun _ _=>by kernel_rfl) (by
 intro x y
 show J _ (g chk (fun x=>(true,x)) x.1 x.2.1 x.2.2.1) (g (fun c z=>req c z) (fun x=>some (res x)) x.1 x.2.1 x.2.2.1)
 unfold g
 with_reducible repeat (first|(apply J.lt; intro _)|apply J.rq|apply J.bif|exact J.rt rfl))
end gX
namespace bE
abbrev X:Type:=(List Int)
def res (x:(List Int)):Res:=⟨[.val ⟨.arr 4 (.int .u64),x⟩],[],[]⟩
def g {Z:Type} (rq:Bool→Z→Z) (rt:X→Z) (rx:(Option aJ)) (a:(List Int)) (b:(List Int)):Z:=
lt (a.getD 0 0) fun (v779:Int)=>
lt (gX.r [0,0,0,0,0,0] v779 b) fun w780=>
rq w780.1<|
lt (w780.2.getD 0 0) fun (v781:Int)=>
lt (rx.getD dV) fun (v782:aJ)=>
rq rx.isSome<|
lt (IntKind.u64.wrap (v781*v782.2.1)) fun v783=>
lt (rx.getD dV) fun (v784:aJ)=>
rq rx.isSome<|
lt (gX.r w780.2 v783 v784.1) fun w785=>
rq w785.1<|
lt (over w785.2 0 (((w785.2.drop 1).take 5).take 6)) fun (v786:(List Int))=>
lt ((min 6 (((w785.2.drop 1).take 5).length):Nat):Int) fun (v787:Int)=>
lt (v786.set 5 0) fun (v788:(List Int))=>
lt (a.getD 1 0) fun (v789:Int)=>
lt (gX.r v788 v789 b) fun w790=>
rq w790.1<|
lt (w790.2.getD 0 0) fun (v791:Int)=>
lt (rx.getD dV) fun (v792:aJ)=>
rq rx.isSome<|
lt (IntKind.u64.wrap (v791*v792.2.1)) fun v793=>
lt (rx.getD dV) fun (v794:aJ)=>
rq rx.isSome<|
lt (gX.r w790.2 v793 v794.1) fun w795=>
rq w795.1<|
lt (over w795.2 0 (((w795.2.drop 1).take 5).take 6)) fun (v796:(List Int))=>
lt ((min 6 (((w795.2.drop 1).take 5).length):Nat):Int) fun (v797:Int)=>
lt (v796.set 5 0) fun (v798:(List Int))=>
lt (a.getD 2 0) fun (v799:Int)=>
lt (gX.r v798 v799 b) fun w800=>
rq w800.1<|
lt (w800.2.getD 0 0) fun (v801:Int)=>
lt (rx.getD dV) fun (v802:aJ)=>
rq rx.isSome<|
lt (IntKind.u64.wrap (v801*v802.2.1)) fun v803=>
lt (rx.getD dV) fun (v804:aJ)=>
rq rx.isSome<|
lt (gX.r w800.2 v803 v804.1) fun w805=>
rq w805.1<|
lt (over w805.2 0 (((w805.2.drop 1).take 5).take 6)) fun (v806:(List Int))=>
lt ((min 6 (((w805.2.drop 1).take 5).length):Nat):Int) fun (v807:Int)=>
lt (v806.set 5 0) fun (v808:(List Int))=>
lt (a.getD 3 0) fun (v809:Int)=>
lt (gX.r v808 v809 b) fun w810=>
rq w810.1<|
lt (w810.2.getD 0 0) fun (v811:Int)=>
lt (rx.getD dV) fun (v812:aJ)=>
rq rx.isSome<|
lt (IntKind.u64.wrap (v811*v812.2.1)) fun v813=>
lt (rx.getD dV) fun (v814:aJ)=>
rq rx.isSome<|
lt (gX.r w810.2 v813 v814.1) fun w815=>
rq w815.1<|
lt (over w815.2 0 (((w815.2.drop 1).take 5).take 6)) fun (v816:(List Int))=>
lt ((min 6 (((w815.2.drop 1).take 5).length):Nat):Int) fun (v817:Int)=>
lt (v816.set 5 0) fun (v818:(List Int))=>
lt (v818.take 4) fun (v819:(List Int))=>
lt (v818.getD 4 0) fun (v820:Int)=>
lt (v820 != 0) fun (v821:Bool)=>
bif v821 then
lt (rx.getD dV) fun (v822:aJ)=>
rq rx.isSome<|
lt (jX.r v819 v822.1) fun w823=>
rq w823.1<|
rt w823.2.1
else
lt (rx.getD dV) fun (v824:aJ)=>
rq rx.isSome<|
lt (jJ.r v819 v824.1) fun w825=>
rq w825.1<|
lt (ile 0 w825.2) fun v826=>
bif v826 then
lt (rx.getD dV) fun (v827:aJ)=>
rq rx.isSome<|
lt (jX.r v819 v827.1) fun w828=>
rq w828.1<|
rt w828.2.1
else
rt v819
def r (rx:(Option aJ)) (a:(List Int)) (b:(List Int)):Bool×X:=g chk (fun x=>(true,x)) rx a b
def D:aH:=Dof (P:=Tryz.prog) [gX.ent,jX.ent,jJ.ent]
def tab:List (Nat×LE Res):= []
abbrev aS:List AS:= [.one (.val (.ref eF)),.one (.val (.arr 4 (.int .u64))),.one (.val (.arr 4 (.int .u64)))]
abbrev bS:List Ty:= []
def ent:Ent Tryz.prog:=bH (D:=D) (tab:=tab) hE0 (ay _) [true] Tryz.func104 (by kernel_rfl) aC aS bS res (fun x y=>r x.1 x.2.1 x.2.2.1) (fun x y=>g (fun c z=>req c z) (fun x=>some (res x)) x.1 x.2.1 x.2.2.1) (fun _ _=>by kernel_rfl) (by
 intro x y
 show J _ (g chk (fun x=>(true,x)) x.1 x.2.1 x.2.2.1) (g (fun c z=>req c z) (fun x=>some (res x)) x.1 x.2.1 x.2.2.1)
 unfold g
 with_reducible repeat (first|(apply J.lt; intro _)|apply J.rq|apply J.bif|exact J.rt rfl))
end bE
namespace iP
abbrev X:Type:=(List Int)
def res (x:(List Int)):Res:=⟨[.val ⟨.arr 4 (.int .u64),x⟩],[],[]⟩
def g {Z:Type} (rq:Bool→Z→Z) (rt:X→Z) (rx:(Option aJ)) (a:(List Int)):Z:=
lt (dS.r rx) fun w643=>
rq w643.1<|
lt (!w643.2) fun (v644:Bool)=>
bif v644 then
rt [0,0,0,0]
else
lt (je.r rx a) fun w650=>
rq w650.1<|
lt (rx.getD dV) fun (v651:aJ)=>
rq rx.isSome<|
lt (bE.r rx w650.2 v651.2.2.2.1) fun w829=>
rq w829.1<|
rt w829.2
def r (rx:(Option aJ)) (a:(List Int)):Bool×X:=g chk (fun x=>(true,x)) rx a
def D:aH:=Dof (P:=Tryz.prog) [dS.ent,je.ent,bE.ent]
def tab:List (Nat×LE Res):= []
abbrev aS:List AS:= [.one (.val (.ref eF)),.one (.val (.arr 4 (.int .u64)))]
abbrev bS:List Ty:= []
def ent:Ent Tryz.prog:=bH (D:=D) (tab:=tab) hE0 (ay _) [true] Tryz.func131 (by kernel_rfl) aC aS bS res (fun x y=>r x.1 x.2.1) (fun x y=>g (fun c z=>req c z) (fun x=>some (res x)) x.1 x.2.1) (fun _ _=>by kernel_rfl) (by
 intro x y
 show J _ (g chk (fun x=>(true,x)) x.1 x.2.1) (g (fun c z=>req c z) (fun x=>some (res x)) x.1 x.2.1)
 unfold g
 with_reducible repeat (first|(apply J.lt; intro _)|apply J.rq|apply J.bif|exact J.rt rfl))
end iP
namespace dY
abbrev X:Type:=(List (List Int))
def res (x:(List (List Int))):Res:=⟨[.val ⟨.arr 16 (.arr 4 (.int .u64)),x⟩],[],[]⟩
abbrev sh0:List (Nat×Sh):= [(0,.p (.ref eF)),(4,.pb 500000 (.arr 16 (.arr 4 (.int .u64))) []),(5,.pb 500001 (.arr 16 (.arr 4 (.int .u64))) []),(6,.pb 500002 (.arr 4 (.int .u64)) []),(7,.p (.int .i64))]
abbrev bx0:List (Nat×Ty):= [(500000,.arr 16 (.arr 4 (.int .u64))),(500001,.arr 16 (.arr 4 (.int .u64))),(500002,.arr 4 (.int .u64))]
abbrev aY:List (Nat×Ty):= [(500000,.arr 16 (.arr 4 (.int .u64))),(500001,.arr 16 (.arr 4 (.int .u64))),(500002,.arr 4 (.int .u64))]
abbrev aX:List (Nat×Sh):= []
abbrev aZ:List (Nat×Ty):= []
abbrev bX:List (Nat×Ty):= []
abbrev X0:Type:=(Option aJ)×Unit×Unit×Unit×Int×Unit
abbrev Y0:Type:=(List (List Int))×(List (List Int))×(List Int)×Unit
abbrev U0:Type:=Unit
abbrev V0:Type:=Unit
def g0 {Z:Type} (rq:Bool→Z→Z) (kn:X0→Y0→Z) (ke:Nat→X0→Y0→Z) (kr:U0→V0→Z) (x:X0) (y:Y0):Z:=
lt (ilt x.2.2.2.2.1 16) fun v841=>
bif v841 then
lt (IntKind.i64.wrap (x.2.2.2.2.1 - 1)) fun v842=>
rq (ile (0:Int) v842&&ilt v842 16)<|
lt (y.2.1.getD v842.toNat [0,0,0,0]) fun (v843:(List Int))=>
lt (bE.r x.1 v843 y.2.2.1) fun w844=>
rq w844.1<|
rq (ile (0:Int) x.2.2.2.2.1&&ilt x.2.2.2.2.1 16)<|
lt (y.2.1.set x.2.2.2.2.1.toNat w844.2) fun (v845:(List (List Int)))=>
lt (IntKind.i64.wrap (x.2.2.2.2.1+1)) fun v846=>
kn (x.1,(),(),(),v846,()) (y.1,v845,y.2.2.1,())
else
ke 0 (x.1,(),(),(),x.2.2.2.2.1,()) (y.1,y.2.1,y.2.2.1,())
def fu0 (x:X0) (y:Y0):Nat:=((16:Int) - x.2.2.2.2.1).toNat+1
def l0 (x:X0) (y:Y0):Bool×Nat×X0×Y0×U0×V0:=rounds (fun rq kn ke kr x y=>g0 rq kn ke kr x y) () () (fu0 x y) x y
def g {Z:Type} (rq:Bool→Z→Z) (rt:X→Z) (rx:(Option aJ)) (a:(List Int)):Z:=
lt (iP.r rx a) fun w830=>
rq w830.1<|
lt (rx.getD dV) fun (v831:aJ)=>
rq rx.isSome<|
lt (dY.l0 (rx,(),(),(),1,()) ([[0,0,0,0],[0,0,0,0],[0,0,0,0],[0,0,0,0],[0,0,0,0],[0,0,0,0],[0,0,0,0],[0,0,0,0],[0,0,0,0],[0,0,0,0],[0,0,0,0],[0,0,0,0],[0,0,0,0],[0,0,0,0],[0,0,0,0],[0,0,0,0]],[v831.2.2.1,[0,0,0,0],[0,0,0,0],[0,0,0,0],[0,0,0,0],[0,0,0,0],[0,0,0,0],[0,0,0,0],[0,0,0,0],[0,0,0,0],[0,0,0,0],[0,0,0,0],[0,0,0,0],[0,0,0,0],[0,0,0,0],[0,0,0,0]],w830.2,())) fun w847=>
rq w847.1<|
rt w847.2.2.2.1.2.1
def r (rx:(Option aJ)) (a:(List Int)):Bool×X:=g chk (fun x=>(true,x)) rx a
def D:aH:=Dof (P:=Tryz.prog) [iP.ent,bE.ent]
abbrev lf0:=dw (R:=Res) [1] (rounds (fun rq kn ke kr x y=>g0 rq kn ke kr x y) () ()) fu0
def tab:List (Nat×LE Res):= [(6,.typed (eY 30 sh0 bx0 aY aX aZ (lf0)))]
theorem bV:Nonempty (Told E0 D tab Tryz.f100.ntmps (aG (codeOf Tryz.f100) 0) 30 sh0 bx0 aY aX aZ lf0):=fH (sh:=sh0) (bx:=bx0) (ord:=aY) (shR:=aX) (bxR:=aZ) bX (by kernel_rfl) (by kernel_rfl) (by kernel_rfl) [1] _ _ _ @g0 (fun _ _ _ _ _=>by kernel_rfl) (by
  intro _ _ _ _ _ _ _ h i k x y
  simp only [g0]
  with_reducible repeat (first|(apply J.lt; intro _)|apply J.rq|apply J.bif|exact h _ _|exact i _ (by decide) _ _|exact k (by decide) _ _))
theorem bW:fQ E0 D tab Tryz.f100.ntmps (codeOf Tryz.f100):=bT (bs:= [aG (codeOf Tryz.f100) 0]) (by kernel_rfl) (aF (bP (by kernel_rfl) (bV)) aO)
abbrev aS:List AS:= [.one (.val (.ref eF)),.one (.val (.arr 4 (.int .u64)))]
abbrev bS:List Ty:= []
def ent:Ent Tryz.prog:=bH (D:=D) (tab:=tab) hE0 (ay _) [true] Tryz.func100 (by kernel_rfl) bW aS bS res (fun x y=>r x.1 x.2.1) (fun x y=>g (fun c z=>req c z) (fun x=>some (res x)) x.1 x.2.1) (fun _ _=>by kernel_rfl) (by
 intro x y
 show J _ (g chk (fun x=>(true,x)) x.1 x.2.1) (g (fun c z=>req c z) (fun x=>some (res x)) x.1 x.2.1)
 unfold g
 with_reducible repeat (first|(apply J.lt; intro _)|apply J.rq|apply J.bif|exact J.rt rfl))
end dY
namespace qN
abbrev X:Type:=Int
def res (x:Int):Res:=⟨[.val ⟨.int .i64,x⟩],[],[]⟩
def g {Z:Type} (rq:Bool→Z→Z) (rt:X→Z) (a:(List Int)):Z:=
lt (a.getD 3 0) fun (v870:Int)=>
lt (v870 != 0) fun (v871:Bool)=>
bif v871 then
lt (a.getD 3 0) fun (v872:Int)=>
lt (jo.r v872) fun w873=>
rq w873.1<|
lt (IntKind.i64.wrap ((192:Int)+w873.2)) fun v874=>
rt v874
else
lt (a.getD 2 0) fun (v875:Int)=>
lt (v875 != 0) fun (v876:Bool)=>
bif v876 then
lt (a.getD 2 0) fun (v877:Int)=>
lt (jo.r v877) fun w878=>
rq w878.1<|
lt (IntKind.i64.wrap ((128:Int)+w878.2)) fun v879=>
rt v879
else
lt (a.getD 1 0) fun (v880:Int)=>
lt (v880 != 0) fun (v881:Bool)=>
bif v881 then
lt (a.getD 1 0) fun (v882:Int)=>
lt (jo.r v882) fun w883=>
rq w883.1<|
lt (IntKind.i64.wrap ((64:Int)+w883.2)) fun v884=>
rt v884
else
lt (a.getD 0 0) fun (v885:Int)=>
lt (v885 != 0) fun (v886:Bool)=>
bif v886 then
lt (a.getD 0 0) fun (v887:Int)=>
lt (jo.r v887) fun w888=>
rq w888.1<|
lt (IntKind.i64.wrap ((0:Int)+w888.2)) fun v889=>
rt v889
else
rt 0
def r (a:(List Int)):Bool×X:=g chk (fun x=>(true,x)) a
def D:aH:=Dof (P:=Tryz.prog) [jo.ent]
def tab:List (Nat×LE Res):= []
abbrev aS:List AS:= [.one (.val (.arr 4 (.int .u64)))]
abbrev bS:List Ty:= []
def ent:Ent Tryz.prog:=bH (D:=D) (tab:=tab) hE0 (ay _) [true] Tryz.func57 (by kernel_rfl) aC aS bS res (fun x y=>r x.1) (fun x y=>g (fun c z=>req c z) (fun x=>some (res x)) x.1) (fun _ _=>by kernel_rfl) (by
 intro x y
 show J _ (g chk (fun x=>(true,x)) x.1) (g (fun c z=>req c z) (fun x=>some (res x)) x.1)
 unfold g
 with_reducible repeat (first|(apply J.lt; intro _)|apply J.rq|apply J.bif|exact J.rt rfl))
end qN
namespace jF
abbrev X:Type:=(List Int)
def res (x:(List Int)):Res:=⟨[.val ⟨.arr 4 (.int .u64),x⟩],[],[]⟩
abbrev sh0:List (Nat×Sh):= [(2,.pb 500000 (.arr 4 (.int .u64)) []),(4,.pb 500001 (.arr 4 (.int .u64)) []),(5,.pb 500002 (.arr 4 (.int .u64)) []),(6,.p (.int .i64)),(7,.p (.int .i64)),(20,.p (.int .i64)),(21,.p (.int .i64))]
abbrev bx0:List (Nat×Ty):= [(500000,.arr 4 (.int .u64)),(500001,.arr 4 (.int .u64)),(500002,.arr 4 (.int .u64))]
abbrev aY:List (Nat×Ty):= [(500000,.arr 4 (.int .u64)),(500001,.arr 4 (.int .u64)),(500002,.arr 4 (.int .u64))]
abbrev aX:List (Nat×Sh):= []
abbrev aZ:List (Nat×Ty):= []
abbrev bX:List (Nat×Ty):= []
abbrev X0:Type:=Unit×Unit×Unit×Int×Int×Int×Int×Unit
abbrev Y0:Type:=(List Int)×(List Int)×(List Int)×Unit
abbrev U0:Type:=Unit
abbrev V0:Type:=Unit
def g0 {Z:Type} (rq:Bool→Z→Z) (kn:X0→Y0→Z) (ke:Nat→X0→Y0→Z) (kr:U0→V0→Z) (x:X0) (y:Y0):Z:=
lt (ilt x.2.2.2.2.2.2.1 x.2.2.2.2.2.1) fun v937=>
bif v937 then
lt (IntKind.i64.wrap (x.2.2.2.2.2.2.1+x.2.2.2.1)) fun v938=>
rq (ile (0:Int) v938&&ilt v938 4)<|
lt (y.1.getD v938.toNat 0) fun (v939:Int)=>
lt (v939.fdiv (2^(min x.2.2.2.2.1.toNat 64))) fun (v940:Int)=>
rq (!ilt x.2.2.2.2.1 0)<|
rq (ile (0:Int) x.2.2.2.2.2.2.1&&ilt x.2.2.2.2.2.2.1 4)<|
lt (y.2.2.1.set x.2.2.2.2.2.2.1.toNat v940) fun (v941:(List Int))=>
lt (IntKind.i64.wrap (x.2.2.2.2.2.2.1+x.2.2.2.1)) fun v942=>
lt (IntKind.i64.wrap (v942+1)) fun v943=>
lt (ilt v943 4) fun v944=>
bif v944 then
rq (ile (0:Int) x.2.2.2.2.2.2.1&&ilt x.2.2.2.2.2.2.1 4)<|
lt (v941.getD x.2.2.2.2.2.2.1.toNat 0) fun (v945:Int)=>
lt (IntKind.i64.wrap (x.2.2.2.2.2.2.1+x.2.2.2.1)) fun v946=>
lt (IntKind.i64.wrap (v946+1)) fun v947=>
rq (ile (0:Int) v947&&ilt v947 4)<|
lt (y.1.getD v947.toNat 0) fun (v948:Int)=>
lt (IntKind.i64.wrap ((64:Int) - x.2.2.2.2.1)) fun v949=>
lt (IntKind.u64.wrap (v948*2^(min v949.toNat 64))) fun v950=>
rq (!ilt v949 0)<|
lt (eU .u64 (· ||| ·) v945 v950) fun v951=>
rq (ile (0:Int) x.2.2.2.2.2.2.1&&ilt x.2.2.2.2.2.2.1 4)<|
lt (v941.set x.2.2.2.2.2.2.1.toNat v951) fun (v952:(List Int))=>
lt (IntKind.i64.wrap (x.2.2.2.2.2.2.1+1)) fun v953=>
kn ((),(),(),x.2.2.2.1,x.2.2.2.2.1,x.2.2.2.2.2.1,v953,()) (y.1,y.2.1,v952,())
else
lt (IntKind.i64.wrap (x.2.2.2.2.2.2.1+1)) fun v954=>
kn ((),(),(),x.2.2.2.1,x.2.2.2.2.1,x.2.2.2.2.2.1,v954,()) (y.1,y.2.1,v941,())
else
ke 0 ((),(),(),x.2.2.2.1,x.2.2.2.2.1,x.2.2.2.2.2.1,x.2.2.2.2.2.2.1,()) (y.1,y.2.1,y.2.2.1,())
def fu0 (x:X0) (y:Y0):Nat:=(x.2.2.2.2.2.1 - x.2.2.2.2.2.2.1).toNat+1
def l0 (x:X0) (y:Y0):Bool×Nat×X0×Y0×U0×V0:=rounds (fun rq kn ke kr x y=>g0 rq kn ke kr x y) () () (fu0 x y) x y
def g {Z:Type} (rq:Bool→Z→Z) (rt:X→Z) (a:(List Int)) (kx:Int):Z:=
lt (ilt kx 1) fun v931=>
bif v931 then
rt a
else
lt (ile 256 kx) fun v932=>
bif v932 then
rt [0,0,0,0]
else
lt (IntKind.i64.wrap (kx.tdiv 64)) fun v933=>
lt (kx.tmod 64) fun (v934:Int)=>
lt (IntKind.i64.wrap ((4:Int) - v933)) fun v935=>
lt (jF.l0 ((),(),(),v933,v934,v935,0,()) (a,[0,0,0,0],[0,0,0,0],())) fun w955=>
rq w955.1<|
rt w955.2.2.2.1.2.2.1
def r (a:(List Int)) (kx:Int):Bool×X:=g chk (fun x=>(true,x)) a kx
def D:aH:=Dof (P:=Tryz.prog) []
abbrev lf0:=dw (R:=Res) [1] (rounds (fun rq kn ke kr x y=>g0 rq kn ke kr x y) () ()) fu0
def tab:List (Nat×LE Res):= [(9,.typed (eY 54 sh0 bx0 aY aX aZ (lf0)))]
theorem bV:Nonempty (Told E0 D tab Tryz.f102.ntmps (aG (codeOf Tryz.f102) 0) 54 sh0 bx0 aY aX aZ lf0):=fH (sh:=sh0) (bx:=bx0) (ord:=aY) (shR:=aX) (bxR:=aZ) bX (by kernel_rfl) (by kernel_rfl) (by kernel_rfl) [1] _ _ _ @g0 (fun _ _ _ _ _=>by kernel_rfl) (by
  intro _ _ _ _ _ _ _ h i k x y
  simp only [g0]
  with_reducible repeat (first|(apply J.lt; intro _)|apply J.rq|apply J.bif|exact h _ _|exact i _ (by decide) _ _|exact k (by decide) _ _))
theorem bW:fQ E0 D tab Tryz.f102.ntmps (codeOf Tryz.f102):=bT (bs:= [aG (codeOf Tryz.f102) 0]) (by kernel_rfl) (aF (bP (by kernel_rfl) (bV)) aO)
abbrev aS:List AS:= [.one (.val (.arr 4 (.int .u64))),.one (.val (.int .i64))]
abbrev bS:List Ty:= []
def ent:Ent Tryz.prog:=bH (D:=D) (tab:=tab) hE0 (ay _) [true] Tryz.func102 (by kernel_rfl) bW aS bS res (fun x y=>r x.1 x.2.1) (fun x y=>g (fun c z=>req c z) (fun x=>some (res x)) x.1 x.2.1) (fun _ _=>by kernel_rfl) (by
 intro x y
 show J _ (g chk (fun x=>(true,x)) x.1 x.2.1) (g (fun c z=>req c z) (fun x=>some (res x)) x.1 x.2.1)
 unfold g
 with_reducible repeat (first|(apply J.lt; intro _)|apply J.rq|apply J.bif|exact J.rt rfl))
end jF
namespace jh
abbrev X:Type:=Int
def res (x:Int):Res:=⟨[.val ⟨.int .i64,x⟩],[],[]⟩
def g {Z:Type} (rq:Bool→Z→Z) (rt:X→Z) (e:(List Int)) (atx:Int):Z:=
lt (jF.r e atx) fun w956=>
rq w956.1<|
lt (l9.r w956.2 252) fun w957=>
rq w957.1<|
lt (jF.r w957.2 252) fun w958=>
rq w958.1<|
lt (qO.r w958.2) fun w959=>
rq w959.1<|
rt w959.2.1
def r (e:(List Int)) (atx:Int):Bool×X:=g chk (fun x=>(true,x)) e atx
def D:aH:=Dof (P:=Tryz.prog) [jF.ent,l9.ent,qO.ent]
def tab:List (Nat×LE Res):= []
abbrev aS:List AS:= [.one (.val (.arr 4 (.int .u64))),.one (.val (.int .i64))]
abbrev bS:List Ty:= []
def ent:Ent Tryz.prog:=bH (D:=D) (tab:=tab) hE0 (ay _) [true] Tryz.func101 (by kernel_rfl) aC aS bS res (fun x y=>r x.1 x.2.1) (fun x y=>g (fun c z=>req c z) (fun x=>some (res x)) x.1 x.2.1) (fun _ _=>by kernel_rfl) (by
 intro x y
 show J _ (g chk (fun x=>(true,x)) x.1 x.2.1) (g (fun c z=>req c z) (fun x=>some (res x)) x.1 x.2.1)
 unfold g
 with_reducible repeat (first|(apply J.lt; intro _)|apply J.rq|apply J.bif|exact J.rt rfl))
end jh
namespace bg
abbrev X:Type:=(List Int)×Int
def res (x:(List Int)×Int):Res:=⟨[.val ⟨.arr 4 (.int .u64),x.1⟩,.val ⟨.int .i64,x.2⟩],[],[]⟩
abbrev sh3:List (Nat×Sh):= [(0,.p (.ref eF)),(2,.p (.sl (.arr 4 (.int .u64)))),(6,.pb 503000 (.arr 4 (.int .u64)) []),(7,.p (.int .i64)),(8,.va 503001 (.arr 16 (.arr 4 (.int .u64)))),(12,.clo 101 []),(13,.pb 503002 (.arr 4 (.int .u64)) []),(14,.p (.int .i64)),(74,.p (.sl (.arr 4 (.int .u64)))),(75,.p (.int .i64)),(76,.p (.int .i64))]
abbrev bx3:List (Nat×Ty):= [(503000,.arr 4 (.int .u64)),(503001,.dyn (.arr 16 (.arr 4 (.int .u64)))),(503002,.arr 4 (.int .u64))]
abbrev Sd:List (Nat×Ty):= [(503000,.arr 4 (.int .u64)),(503001,.dyn (.arr 16 (.arr 4 (.int .u64)))),(503002,.arr 4 (.int .u64))]
abbrev RX:List (Nat×Sh):= []
abbrev SK:List (Nat×Ty):= []
abbrev TP:List (Nat×Ty):= []
abbrev X3:Type:=(Option aJ)×(List (List Int))×Unit×Int×Unit×Unit×Unit×Int×(List (List Int))×Int×Int×Unit
abbrev Y3:Type:=(List Int)×(Bool×List (List (List Int)))×(List Int)×Unit
abbrev U3:Type:=Unit
abbrev V3:Type:=Unit
def g3 {Z:Type} (rq:Bool→Z→Z) (kn:X3→Y3→Z) (ke:Nat→X3→Y3→Z) (kr:U3→V3→Z) (x:X3) (y:Y3):Z:=
lt (ilt x.2.2.2.2.2.2.2.2.2.2.1 x.2.2.2.2.2.2.2.2.2.1) fun v929=>
bif v929 then
lt (x.2.2.2.2.2.2.2.2.1.getD x.2.2.2.2.2.2.2.2.2.2.1.toNat [0,0,0,0]) fun (v930:(List Int))=>
rq (ile (0:Int) x.2.2.2.2.2.2.2.2.2.2.1&&ilt x.2.2.2.2.2.2.2.2.2.2.1 (x.2.2.2.2.2.2.2.2.1.length:Int))<|
lt (jh.r v930 x.2.2.2.2.2.2.2.1) fun w960=>
rq w960.1<|
rq (ile (0:Int) x.2.2.2.2.2.2.2.2.2.2.1&&ilt x.2.2.2.2.2.2.2.2.2.2.1 (y.2.1.2.length:Int))<|
rq (ile (0:Int) w960.2&&ilt w960.2 16)<|
lt ((y.2.1.2.getD x.2.2.2.2.2.2.2.2.2.2.1.toNat [[0,0,0,0],[0,0,0,0],[0,0,0,0],[0,0,0,0],[0,0,0,0],[0,0,0,0],[0,0,0,0],[0,0,0,0],[0,0,0,0],[0,0,0,0],[0,0,0,0],[0,0,0,0],[0,0,0,0],[0,0,0,0],[0,0,0,0],[0,0,0,0]]).getD w960.2.toNat [0,0,0,0]) fun (v961:(List Int))=>
lt (bE.r x.1 y.2.2.1 v961) fun w962=>
rq w962.1<|
lt (IntKind.i64.wrap (x.2.2.2.2.2.2.2.2.2.2.1+1)) fun v963=>
kn (x.1,x.2.1,(),x.2.2.2.1,(),(),(),x.2.2.2.2.2.2.2.1,x.2.2.2.2.2.2.2.2.1,x.2.2.2.2.2.2.2.2.2.1,v963,()) (y.1,y.2.1,w962.2,())
else
ke 6 (x.1,x.2.1,(),x.2.2.2.1,(),(),(),x.2.2.2.2.2.2.2.1,x.2.2.2.2.2.2.2.2.1,x.2.2.2.2.2.2.2.2.2.1,x.2.2.2.2.2.2.2.2.2.2.1,()) (y.1,y.2.1,y.2.2.1,())
def fu3 (x:X3) (y:Y3):Nat:=(x.2.2.2.2.2.2.2.2.2.1 - x.2.2.2.2.2.2.2.2.2.2.1).toNat+1
def l3 (x:X3) (y:Y3):Bool×Nat×X3×Y3×U3×V3:=rounds (fun rq kn ke kr x y=>g3 rq kn ke kr x y) () () (fu3 x y) x y
abbrev sh1:List (Nat×Sh):= [(0,.p (.ref eF)),(2,.p (.sl (.arr 4 (.int .u64)))),(6,.pb 501000 (.arr 4 (.int .u64)) []),(7,.p (.int .i64)),(8,.va 501001 (.arr 16 (.arr 4 (.int .u64)))),(12,.clo 101 []),(13,.pb 501002 (.arr 4 (.int .u64)) []),(14,.p (.int .i64))]
abbrev bx1:List (Nat×Ty):= [(501000,.arr 4 (.int .u64)),(501001,.dyn (.arr 16 (.arr 4 (.int .u64)))),(501002,.arr 4 (.int .u64))]
abbrev nI:List (Nat×Ty):= [(501000,.arr 4 (.int .u64)),(501001,.dyn (.arr 16 (.arr 4 (.int .u64)))),(501002,.arr 4 (.int .u64))]
abbrev nG:List (Nat×Sh):= []
abbrev nS:List (Nat×Ty):= []
abbrev rQ:List (Nat×Ty):= []
abbrev X1:Type:=(Option aJ)×(List (List Int))×Unit×Int×Unit×Unit×Unit×Int×Unit
abbrev Y1:Type:=(List Int)×(Bool×List (List (List Int)))×(List Int)×Unit
abbrev U1:Type:=Unit
abbrev V1:Type:=Unit
def g1 {Z:Type} (rq:Bool→Z→Z) (kn:X1→Y1→Z) (ke:Nat→X1→Y1→Z) (kr:U1→V1→Z) (x:X1) (y:Y1):Z:=
lt (ilt 0 x.2.2.2.2.2.2.2.1) fun v917=>
bif v917 then
lt (IntKind.i64.wrap (x.2.2.2.2.2.2.2.1 - 4)) fun v918=>
lt (bE.r x.1 y.2.2.1 y.2.2.1) fun w923=>
rq w923.1<|
lt (bE.r x.1 w923.2 w923.2) fun w924=>
rq w924.1<|
lt (bE.r x.1 w924.2 w924.2) fun w925=>
rq w925.1<|
lt (bE.r x.1 w925.2 w925.2) fun w926=>
rq w926.1<|
lt (x.2.1.length:Int) fun (v927:Int)=>
lt (bg.l3 (x.1,x.2.1,(),x.2.2.2.1,(),(),(),v918,x.2.1,v927,0,()) (y.1,y.2.1,w926.2,())) fun w964=>
rq w964.1<|
kn (w964.2.2.1.1,w964.2.2.1.2.1,(),w964.2.2.1.2.2.2.1,(),(),(),w964.2.2.1.2.2.2.2.2.2.2.1,()) (w964.2.2.2.1.1,w964.2.2.2.1.2.1,w964.2.2.2.1.2.2.1,())
else
ke 2 (x.1,x.2.1,(),x.2.2.2.1,(),(),(),x.2.2.2.2.2.2.2.1,()) (y.1,y.2.1,y.2.2.1,())
def fu1 (x:X1) (y:Y1):Nat:=(x.2.2.2.2.2.2.2.1 - (0:Int)).toNat+1
def l1 (x:X1) (y:Y1):Bool×Nat×X1×Y1×U1×V1:=rounds (fun rq kn ke kr x y=>g1 rq kn ke kr x y) () () (fu1 x y) x y
abbrev sh0:List (Nat×Sh):= [(0,.p (.ref eF)),(2,.p (.sl (.arr 4 (.int .u64)))),(6,.pb 500000 (.arr 4 (.int .u64)) []),(7,.p (.int .i64)),(8,.va 500001 (.arr 16 (.arr 4 (.int .u64)))),(9,.p (.int .i64)),(33,.p (.sl (.arr 4 (.int .u64)))),(34,.p (.int .i64)),(35,.p (.int .i64))]
abbrev bx0:List (Nat×Ty):= [(500000,.arr 4 (.int .u64)),(500001,.dyn (.arr 16 (.arr 4 (.int .u64))))]
abbrev aY:List (Nat×Ty):= [(500000,.arr 4 (.int .u64)),(500001,.dyn (.arr 16 (.arr 4 (.int .u64))))]
abbrev aX:List (Nat×Sh):= []
abbrev aZ:List (Nat×Ty):= []
abbrev bX:List (Nat×Ty):= []
abbrev X0:Type:=(Option aJ)×(List (List Int))×Unit×Int×Unit×Int×(List (List Int))×Int×Int×Unit
abbrev Y0:Type:=(List Int)×(Bool×List (List (List Int)))×Unit
abbrev U0:Type:=Unit
abbrev V0:Type:=Unit
def g0 {Z:Type} (rq:Bool→Z→Z) (kn:X0→Y0→Z) (ke:Nat→X0→Y0→Z) (kr:U0→V0→Z) (x:X0) (y:Y0):Z:=
lt (ilt x.2.2.2.2.2.2.2.2.1 x.2.2.2.2.2.2.2.1) fun v901=>
bif v901 then
lt (x.2.2.2.2.2.2.1.getD x.2.2.2.2.2.2.2.2.1.toNat [0,0,0,0]) fun (v902:(List Int))=>
rq (ile (0:Int) x.2.2.2.2.2.2.2.2.1&&ilt x.2.2.2.2.2.2.2.2.1 (x.2.2.2.2.2.2.1.length:Int))<|
lt (dY.r x.1 v902) fun w903=>
rq w903.1<|
lt (y.2.1.1&&false) fun (v904:Bool)=>
lt (y.2.1.2++ [w903.2]) fun (v905:(List (List (List Int))))=>
rq (nle ((2*(y.2.1.2.length+1)+512)*512) 70368744177664)<|
lt (x.2.1.getD x.2.2.2.2.2.2.2.2.1.toNat [0,0,0,0]) fun (v906:(List Int))=>
rq (ile (0:Int) x.2.2.2.2.2.2.2.2.1&&ilt x.2.2.2.2.2.2.2.2.1 (x.2.1.length:Int))<|
lt (qN.r v906) fun w907=>
rq w907.1<|
lt (bif ilt x.2.2.2.2.2.1 w907.2 then w907.2 else x.2.2.2.2.2.1) fun (v908:Int)=>
lt (IntKind.i64.wrap (x.2.2.2.2.2.2.2.2.1+1)) fun v909=>
kn (x.1,x.2.1,(),x.2.2.2.1,(),v908,x.2.2.2.2.2.2.1,x.2.2.2.2.2.2.2.1,v909,()) (y.1,(v904,v905),())
else
ke 0 (x.1,x.2.1,(),x.2.2.2.1,(),x.2.2.2.2.2.1,x.2.2.2.2.2.2.1,x.2.2.2.2.2.2.2.1,x.2.2.2.2.2.2.2.2.1,()) (y.1,y.2.1,())
def fu0 (x:X0) (y:Y0):Nat:=(x.2.2.2.2.2.2.2.1 - x.2.2.2.2.2.2.2.2.1).toNat+1
def l0 (x:X0) (y:Y0):Bool×Nat×X0×Y0×U0×V0:=rounds (fun rq kn ke kr x y=>g0 rq kn ke kr x y) () () (fu0 x y) x y
def g {Z:Type} (rq:Bool→Z→Z) (rt:X→Z) (rx:(Option aJ)) (bases:(List (List Int))) (exps:(List (List Int))):Z:=
lt (dS.r rx) fun w893=>
rq w893.1<|
lt (!w893.2) fun (v894:Bool)=>
bif v894 then
rt ([0,0,0,0],1)
else
lt (bases.length:Int) fun (v895:Int)=>
lt (exps.length:Int) fun (v896:Int)=>
lt (v895 != v896) fun (v897:Bool)=>
bif v897 then
rt ([0,0,0,0],1)
else
lt (bases.length:Int) fun (v898:Int)=>
lt (ilt 64 v898) fun v899=>
bif v899 then
rt ([0,0,0,0],1)
else
lt (bases.length:Int) fun (v900:Int)=>
lt (bg.l0 (rx,exps,(),0,(),0,bases,v900,0,()) ([0,0,0,0],(true,[]),())) fun w910=>
rq w910.1<|
lt (w910.2.2.1.1.getD dV) fun (v911:aJ)=>
rq w910.2.2.1.1.isSome<|
lt (IntKind.i64.wrap (w910.2.2.1.2.2.2.2.2.1+4)) fun v912=>
lt (IntKind.i64.wrap (v912 - 1)) fun v913=>
lt (IntKind.i64.wrap (v913.tdiv 4)) fun v914=>
lt (IntKind.i64.wrap (v914*4)) fun v915=>
lt (bg.l1 (w910.2.2.1.1,w910.2.2.1.2.1,(),w910.2.2.1.2.2.2.1,(),(),(),v915,()) (w910.2.2.2.1.1,w910.2.2.2.1.2.1,v911.2.2.1,())) fun w965=>
rq w965.1<|
lt (dM.r 1) fun w966=>
rq w966.1<|
lt (bE.r w965.2.2.1.1 w965.2.2.2.1.2.2.1 w966.2) fun w967=>
rq w967.1<|
rt (w967.2,0)
def r (rx:(Option aJ)) (bases:(List (List Int))) (exps:(List (List Int))):Bool×X:=g chk (fun x=>(true,x)) rx bases exps
def D:aH:=Dof (P:=Tryz.prog) [dS.ent,dY.ent,qN.ent,bE.ent,jh.ent,dM.ent]
abbrev lf3:=dw (R:=Res) [7] (rounds (fun rq kn ke kr x y=>g3 rq kn ke kr x y) () ()) fu3
abbrev lf1:=dw (R:=Res) [3] (rounds (fun rq kn ke kr x y=>g1 rq kn ke kr x y) () ()) fu1
abbrev lf0:=dw (R:=Res) [1] (rounds (fun rq kn ke kr x y=>g0 rq kn ke kr x y) () ()) fu0
def tab:List (Nat×LE Res):= [(22,.typed (eY 98 sh3 bx3 Sd RX SK (lf3))),(15,.typed (eY 98 sh1 bx1 nI nG nS (lf1))),(7,.typed (eY 98 sh0 bx0 aY aX aZ (lf0)))]
theorem TJ:Nonempty (Told E0 D tab Tryz.f71.ntmps (aG (codeOf Tryz.f71) 3) 98 sh3 bx3 Sd RX SK lf3):=fH (sh:=sh3) (bx:=bx3) (ord:=Sd) (shR:=RX) (bxR:=SK) TP (by kernel_rfl) (by kernel_rfl) (by kernel_rfl) [7] _ _ _ @g3 (fun _ _ _ _ _=>by kernel_rfl) (by
  intro _ _ _ _ _ _ _ h i k x y
  simp only [g3]
  with_reducible repeat (first|(apply J.lt; intro _)|apply J.rq|apply J.bif|exact h _ _|exact i _ (by decide) _ _|exact k (by decide) _ _))
theorem rf:Nonempty (Told E0 D tab Tryz.f71.ntmps (aG (codeOf Tryz.f71) 1) 98 sh1 bx1 nI nG nS lf1):=fH (sh:=sh1) (bx:=bx1) (ord:=nI) (shR:=nG) (bxR:=nS) rQ (by kernel_rfl) (by kernel_rfl) (by kernel_rfl) [3] _ _ _ @g1 (fun _ _ _ _ _=>by kernel_rfl) (by
  intro _ _ _ _ _ _ _ h i k x y
  simp only [g1]
  with_reducible repeat (first|(apply J.lt; intro _)|apply J.rq|apply J.bif|exact h _ _|exact i _ (by decide) _ _|exact k (by decide) _ _))
theorem bV:Nonempty (Told E0 D tab Tryz.f71.ntmps (aG (codeOf Tryz.f71) 0) 98 sh0 bx0 aY aX aZ lf0):=fH (sh:=sh0) (bx:=bx0) (ord:=aY) (shR:=aX) (bxR:=aZ) bX (by kernel_rfl) (by kernel_rfl) (by kernel_rfl) [1] _ _ _ @g0 (fun _ _ _ _ _=>by kernel_rfl) (by
  intro _ _ _ _ _ _ _ h i k x y
  simp only [g0]
  with_reducible repeat (first|(apply J.lt; intro _)|apply J.rq|apply J.bif|exact h _ _|exact i _ (by decide) _ _|exact k (by decide) _ _))
theorem bW:fQ E0 D tab Tryz.f71.ntmps (codeOf Tryz.f71):=bT (bs:= [aG (codeOf Tryz.f71) 0,aG (codeOf Tryz.f71) 1,aG (codeOf Tryz.f71) 2,aG (codeOf Tryz.f71) 3]) (by kernel_rfl) (aF (bP (by kernel_rfl) (bV)) (aF (bP (by kernel_rfl) (rf)) (aF (TM (by kernel_rfl)) (aF (bP (by kernel_rfl) (TJ)) aO))))
abbrev aS:List AS:= [.one (.val (.ref eF)),.one (.val (.sl (.arr 4 (.int .u64)))),.one (.val (.sl (.arr 4 (.int .u64))))]
abbrev bS:List Ty:= []
def ent:Ent Tryz.prog:=bH (D:=D) (tab:=tab) hE0 (ay _) [true,true] Tryz.func71 (by kernel_rfl) bW aS bS res (fun x y=>r x.1 x.2.1 x.2.2.1) (fun x y=>g (fun c z=>req c z) (fun x=>some (res x)) x.1 x.2.1 x.2.2.1) (fun _ _=>by kernel_rfl) (by
 intro x y
 show J _ (g chk (fun x=>(true,x)) x.1 x.2.1 x.2.2.1) (g (fun c z=>req c z) (fun x=>some (res x)) x.1 x.2.1 x.2.2.1)
 unfold g
 with_reducible repeat (first|(apply J.lt; intro _)|apply J.rq|apply J.bif|exact J.rt rfl))
end bg
namespace eH
abbrev X:Type:=(List Int)
def res (x:(List Int)):Res:=⟨[.val ⟨.arr 4 (.int .u64),x⟩],[],[]⟩
def g {Z:Type} (rq:Bool→Z→Z) (rt:X→Z) (rx:(Option aJ)) (a:(List Int)) (e:(List Int)):Z:=
lt (bg.r rx [a] [e]) fun w968=>
rq w968.1<|
rt w968.2.1
def r (rx:(Option aJ)) (a:(List Int)) (e:(List Int)):Bool×X:=g chk (fun x=>(true,x)) rx a e
def D:aH:=Dof (P:=Tryz.prog) [bg.ent]
def tab:List (Nat×LE Res):= []
abbrev aS:List AS:= [.one (.val (.ref eF)),.one (.val (.arr 4 (.int .u64))),.one (.val (.arr 4 (.int .u64)))]
abbrev bS:List Ty:= []
def ent:Ent Tryz.prog:=bH (D:=D) (tab:=tab) hE0 (ay _) [true] Tryz.func59 (by kernel_rfl) aC aS bS res (fun x y=>r x.1 x.2.1 x.2.2.1) (fun x y=>g (fun c z=>req c z) (fun x=>some (res x)) x.1 x.2.1 x.2.2.1) (fun _ _=>by kernel_rfl) (by
 intro x y
 show J _ (g chk (fun x=>(true,x)) x.1 x.2.1 x.2.2.1) (g (fun c z=>req c z) (fun x=>some (res x)) x.1 x.2.1 x.2.2.1)
 unfold g
 with_reducible repeat (first|(apply J.lt; intro _)|apply J.rq|apply J.bif|exact J.rt rfl))
end eH
namespace qP
abbrev X:Type:=(List Int)×Int
def res (x:(List Int)×Int):Res:=⟨[.val ⟨.arr 4 (.int .u64),x.1⟩,.val ⟨.int .i64,x.2⟩],[],[]⟩
def g {Z:Type} (rq:Bool→Z→Z) (rt:X→Z) (a:(List Int)) (b:(List Int)):Z:=
lt (a.getD 0 0) fun (v995:Int)=>
lt (b.getD 0 0) fun (v996:Int)=>
lt ((v995+v996+(0:Int))%18446744073709551616) fun (v997:Int)=>
lt ((v995+v996+(0:Int))/18446744073709551616) fun (v998:Int)=>
rq (((ile 0 v995&&ile 0 v996)&&ile 0 (0:Int))&&ile (0:Int) 1)<|
lt (a.getD 1 0) fun (v999:Int)=>
lt (b.getD 1 0) fun (v1000:Int)=>
lt ((v999+v1000+v998)%18446744073709551616) fun (v1001:Int)=>
lt ((v999+v1000+v998)/18446744073709551616) fun (v1002:Int)=>
rq (((ile 0 v999&&ile 0 v1000)&&ile 0 v998)&&ile v998 1)<|
lt (a.getD 2 0) fun (v1003:Int)=>
lt (b.getD 2 0) fun (v1004:Int)=>
lt ((v1003+v1004+v1002)%18446744073709551616) fun (v1005:Int)=>
lt ((v1003+v1004+v1002)/18446744073709551616) fun (v1006:Int)=>
rq (((ile 0 v1003&&ile 0 v1004)&&ile 0 v1002)&&ile v1002 1)<|
lt (a.getD 3 0) fun (v1007:Int)=>
lt (b.getD 3 0) fun (v1008:Int)=>
lt ((v1007+v1008+v1006)%18446744073709551616) fun (v1009:Int)=>
lt ((v1007+v1008+v1006)/18446744073709551616) fun (v1010:Int)=>
rq (((ile 0 v1007&&ile 0 v1008)&&ile 0 v1006)&&ile v1006 1)<|
lt (IntKind.i64.wrap (v1010)) fun v1011=>
rt ([v997,v1001,v1005,v1009],v1011)
def r (a:(List Int)) (b:(List Int)):Bool×X:=g chk (fun x=>(true,x)) a b
def D:aH:=Dof (P:=Tryz.prog) [qz]
def tab:List (Nat×LE Res):= []
abbrev aS:List AS:= [.one (.val (.arr 4 (.int .u64))),.one (.val (.arr 4 (.int .u64)))]
abbrev bS:List Ty:= []
def ent:Ent Tryz.prog:=bH (D:=D) (tab:=tab) hE0 (ay _) [true,true] Tryz.func130 (by kernel_rfl) aC aS bS res (fun x y=>r x.1 x.2.1) (fun x y=>g (fun c z=>req c z) (fun x=>some (res x)) x.1 x.2.1) (fun _ _=>by kernel_rfl) (by
 intro x y
 show J _ (g chk (fun x=>(true,x)) x.1 x.2.1) (g (fun c z=>req c z) (fun x=>some (res x)) x.1 x.2.1)
 unfold g
 with_reducible repeat (first|(apply J.lt; intro _)|apply J.rq|apply J.bif|exact J.rt rfl))
end qP
namespace iN
abbrev X:Type:=(List Int)×Int
def res (x:(List Int)×Int):Res:=⟨[.val ⟨.arr 4 (.int .u64),x.1⟩,.val ⟨.int .i64,x.2⟩],[],[]⟩
def g {Z:Type} (rq:Bool→Z→Z) (rt:X→Z) (a:(List Int)) (b:(List Int)) (m:(List Int)):Z:=
lt (gM.r a [0,0,0,0] m) fun w974=>
rq w974.1<|
lt (w974.2.2 != 0) fun (v975:Bool)=>
bif v975 then
rt ([0,0,0,0],w974.2.2)
else
lt (gM.r b [0,0,0,0] m) fun w976=>
rq w976.1<|
lt (jX.r w974.2.1 w976.2.1) fun w977=>
rq w977.1<|
lt (w977.2.2== 1) fun (v978:Bool)=>
bif v978 then
lt (qP.r w977.2.1 m) fun w1012=>
rq w1012.1<|
rt (w1012.2.1,0)
else
rt (w977.2.1,0)
def r (a:(List Int)) (b:(List Int)) (m:(List Int)):Bool×X:=g chk (fun x=>(true,x)) a b m
def D:aH:=Dof (P:=Tryz.prog) [gM.ent,jX.ent,qP.ent]
def tab:List (Nat×LE Res):= []
abbrev aS:List AS:= [.one (.val (.arr 4 (.int .u64))),.one (.val (.arr 4 (.int .u64))),.one (.val (.arr 4 (.int .u64)))]
abbrev bS:List Ty:= []
def ent:Ent Tryz.prog:=bH (D:=D) (tab:=tab) hE0 (ay _) [true,true] Tryz.func123 (by kernel_rfl) aC aS bS res (fun x y=>r x.1 x.2.1 x.2.2.1) (fun x y=>g (fun c z=>req c z) (fun x=>some (res x)) x.1 x.2.1 x.2.2.1) (fun _ _=>by kernel_rfl) (by
 intro x y
 show J _ (g chk (fun x=>(true,x)) x.1 x.2.1 x.2.2.1) (g (fun c z=>req c z) (fun x=>some (res x)) x.1 x.2.1 x.2.2.1)
 unfold g
 with_reducible repeat (first|(apply J.lt; intro _)|apply J.rq|apply J.bif|exact J.rt rfl))
end iN
namespace kX
abbrev X:Type:=(List Int)
def res (x:(List Int)):Res:=⟨[.val ⟨.arr 4 (.int .u64),x⟩],[],[]⟩
abbrev sh0:List (Nat×Sh):= [(2,.pb 500000 (.arr 4 (.int .u64)) []),(3,.pb 500001 (.arr 4 (.int .u64)) []),(4,.pb 500002 (.arr 4 (.int .u64)) [])]
abbrev bx0:List (Nat×Ty):= [(500000,.arr 4 (.int .u64)),(500001,.arr 4 (.int .u64)),(500002,.arr 4 (.int .u64))]
abbrev aY:List (Nat×Ty):= [(500000,.arr 4 (.int .u64)),(500001,.arr 4 (.int .u64)),(500002,.arr 4 (.int .u64))]
abbrev aX:List (Nat×Sh):= []
abbrev aZ:List (Nat×Ty):= []
abbrev bX:List (Nat×Ty):= []
abbrev X0:Type:=Unit×Unit×Unit×Unit
abbrev Y0:Type:=(List Int)×(List Int)×(List Int)×Unit
abbrev U0:Type:=Unit
abbrev V0:Type:=Unit
def g0 {Z:Type} (rq:Bool→Z→Z) (kn:X0→Y0→Z) (ke:Nat→X0→Y0→Z) (kr:U0→V0→Z) (x:X0) (y:Y0):Z:=
lt (!(ieq (y.2.1.getD 0 0) 0&&(ieq (y.2.1.getD 1 0) 0&&(ieq (y.2.1.getD 2 0) 0&&(ieq (y.2.1.getD 3 0) 0&&true))))) fun (v1015:Bool)=>
bif v1015 then
lt (lT.r y.1 y.2.1) fun w1016=>
rq w1016.1<|
kn ((),(),(),()) (y.2.1,w1016.2.2.1,y.2.2.1,())
else
ke 0 ((),(),(),()) (y.1,y.2.1,y.2.2.1,())
def fu0 (x:X0) (y:Y0):Nat:=u6
def l0 (x:X0) (y:Y0):Bool×Nat×X0×Y0×U0×V0:=rounds (fun rq kn ke kr x y=>g0 rq kn ke kr x y) () () (fu0 x y) x y
def g {Z:Type} (rq:Bool→Z→Z) (rt:X→Z) (a:(List Int)) (b:(List Int)):Z:=
lt (kX.l0 ((),(),(),()) (a,b,[0,0,0,0],())) fun w1017=>
rq w1017.1<|
rt w1017.2.2.2.1.1
def r (a:(List Int)) (b:(List Int)):Bool×X:=g chk (fun x=>(true,x)) a b
def D:aH:=Dof (P:=Tryz.prog) [lT.ent]
abbrev lf0:=dw (R:=Res) [1] (rounds (fun rq kn ke kr x y=>g0 rq kn ke kr x y) () ()) fu0
def tab:List (Nat×LE Res):= [(2,.typed (eY 21 sh0 bx0 aY aX aZ (lf0)))]
theorem bV:Nonempty (Told E0 D tab Tryz.f124.ntmps (aG (codeOf Tryz.f124) 0) 21 sh0 bx0 aY aX aZ lf0):=fH (sh:=sh0) (bx:=bx0) (ord:=aY) (shR:=aX) (bxR:=aZ) bX (by kernel_rfl) (by kernel_rfl) (by kernel_rfl) [1] _ _ _ @g0 (fun _ _ _ _ _=>by kernel_rfl) (by
  intro _ _ _ _ _ _ _ h i k x y
  simp only [g0]
  with_reducible repeat (first|(apply J.lt; intro _)|apply J.rq|apply J.bif|exact h _ _|exact i _ (by decide) _ _|exact k (by decide) _ _))
theorem bW:fQ E0 D tab Tryz.f124.ntmps (codeOf Tryz.f124):=bT (bs:= [aG (codeOf Tryz.f124) 0]) (by kernel_rfl) (aF (bP (by kernel_rfl) (bV)) aO)
abbrev aS:List AS:= [.one (.val (.arr 4 (.int .u64))),.one (.val (.arr 4 (.int .u64)))]
abbrev bS:List Ty:= []
def ent:Ent Tryz.prog:=bH (D:=D) (tab:=tab) hE0 (ay _) [true] Tryz.func124 (by kernel_rfl) bW aS bS res (fun x y=>r x.1 x.2.1) (fun x y=>g (fun c z=>req c z) (fun x=>some (res x)) x.1 x.2.1) (fun _ _=>by kernel_rfl) (by
 intro x y
 show J _ (g chk (fun x=>(true,x)) x.1 x.2.1) (g (fun c z=>req c z) (fun x=>some (res x)) x.1 x.2.1)
 unfold g
 with_reducible repeat (first|(apply J.lt; intro _)|apply J.rq|apply J.bif|exact J.rt rfl))
end kX
namespace nV
abbrev X:Type:=Bool
def res (x:Bool):Res:=⟨[.val ⟨.bool,x⟩],[],[]⟩
def g {Z:Type} (rq:Bool→Z→Z) (rt:X→Z) (n:(List Int)) (factor:(List Int)) (witness:Int):Z:=
lt (ny.r n) fun w613=>
rq w613.1<|
lt (w613.2.2 != 0) fun (v614:Bool)=>
bif v614 then
rt false
else
lt (ilt witness 2) fun v615=>
bif v615 then
rt false
else
lt (ile 65536 witness) fun v616=>
bif v616 then
rt false
else
lt (ieq (factor.getD 0 0) 0&&(ieq (factor.getD 1 0) 0&&(ieq (factor.getD 2 0) 0&&(ieq (factor.getD 3 0) 0&&true)))) fun v617=>
bif v617 then
rt false
else
lt (dM.r 1) fun w618=>
rq w618.1<|
lt (jX.r n w618.2) fun w619=>
rq w619.1<|
lt (lT.r w619.2.1 factor) fun w622=>
rq w622.1<|
lt (nk.r factor factor) fun w623=>
rq w623.1<|
lt (!(ieq (w622.2.2.1.getD 0 0) 0&&(ieq (w622.2.2.1.getD 1 0) 0&&(ieq (w622.2.2.1.getD 2 0) 0&&(ieq (w622.2.2.1.getD 3 0) 0&&true))))) fun (v624:Bool)=>
bif v624 then
rt false
else
lt (ieq (w623.2.2.getD 0 0) 0&&(ieq (w623.2.2.getD 1 0) 0&&(ieq (w623.2.2.getD 2 0) 0&&(ieq (w623.2.2.getD 3 0) 0&&true)))) fun v625=>
bif v625 then
lt (jJ.r w623.2.1 n) fun w626=>
rq w626.1<|
lt (ile w626.2 0) fun v627=>
bif v627 then
rt false
else
lt (dM.r witness) fun w628=>
rq w628.1<|
lt (eH.r w613.2.1 w628.2 w622.2.1) fun w969=>
rq w969.1<|
lt (eH.r w613.2.1 w969.2 factor) fun w970=>
rq w970.1<|
lt (dM.r 1) fun w971=>
rq w971.1<|
lt (!(ieq (w970.2.getD 0 0) (w971.2.getD 0 0)&&(ieq (w970.2.getD 1 0) (w971.2.getD 1 0)&&(ieq (w970.2.getD 2 0) (w971.2.getD 2 0)&&(ieq (w970.2.getD 3 0) (w971.2.getD 3 0)&&true))))) fun (v972:Bool)=>
bif v972 then
rt false
else
lt (dM.r 1) fun w973=>
rq w973.1<|
lt (iN.r w969.2 w973.2 n) fun w1013=>
rq w1013.1<|
lt (kX.r w1013.2.1 n) fun w1018=>
rq w1018.1<|
lt (dM.r 1) fun w1019=>
rq w1019.1<|
lt (ieq (w1018.2.getD 0 0) (w1019.2.getD 0 0)&&(ieq (w1018.2.getD 1 0) (w1019.2.getD 1 0)&&(ieq (w1018.2.getD 2 0) (w1019.2.getD 2 0)&&(ieq (w1018.2.getD 3 0) (w1019.2.getD 3 0)&&true)))) fun v1020=>
rt v1020
else
lt (dM.r witness) fun w1021=>
rq w1021.1<|
lt (eH.r w613.2.1 w1021.2 w622.2.1) fun w1022=>
rq w1022.1<|
lt (eH.r w613.2.1 w1022.2 factor) fun w1023=>
rq w1023.1<|
lt (dM.r 1) fun w1024=>
rq w1024.1<|
lt (!(ieq (w1023.2.getD 0 0) (w1024.2.getD 0 0)&&(ieq (w1023.2.getD 1 0) (w1024.2.getD 1 0)&&(ieq (w1023.2.getD 2 0) (w1024.2.getD 2 0)&&(ieq (w1023.2.getD 3 0) (w1024.2.getD 3 0)&&true))))) fun (v1025:Bool)=>
bif v1025 then
rt false
else
lt (dM.r 1) fun w1026=>
rq w1026.1<|
lt (iN.r w1022.2 w1026.2 n) fun w1027=>
rq w1027.1<|
lt (kX.r w1027.2.1 n) fun w1028=>
rq w1028.1<|
lt (dM.r 1) fun w1029=>
rq w1029.1<|
lt (ieq (w1028.2.getD 0 0) (w1029.2.getD 0 0)&&(ieq (w1028.2.getD 1 0) (w1029.2.getD 1 0)&&(ieq (w1028.2.getD 2 0) (w1029.2.getD 2 0)&&(ieq (w1028.2.getD 3 0) (w1029.2.getD 3 0)&&true)))) fun v1030=>
rt v1030
def r (n:(List Int)) (factor:(List Int)) (witness:Int):Bool×X:=g chk (fun x=>(true,x)) n factor witness
def D:aH:=Dof (P:=Tryz.prog) [ny.ent,dM.ent,jX.ent,lT.ent,nk.ent,jJ.ent,eH.ent,iN.ent,kX.ent]
def tab:List (Nat×LE Res):= []
abbrev aS:List AS:= [.one (.val (.arr 4 (.int .u64))),.one (.val (.arr 4 (.int .u64))),.one (.val (.int .i64))]
abbrev bS:List Ty:= []
def ent:Ent Tryz.prog:=bH (D:=D) (tab:=tab) hE0 (ay _) [true] Tryz.func87 (by kernel_rfl) aC aS bS res (fun x y=>r x.1 x.2.1 x.2.2.1) (fun x y=>g (fun c z=>req c z) (fun x=>some (res x)) x.1 x.2.1 x.2.2.1) (fun _ _=>by kernel_rfl) (by
 intro x y
 show J _ (g chk (fun x=>(true,x)) x.1 x.2.1 x.2.2.1) (g (fun c z=>req c z) (fun x=>some (res x)) x.1 x.2.1 x.2.2.1)
 unfold g
 with_reducible repeat (first|(apply J.lt; intro _)|apply J.rq|apply J.bif|exact J.rt rfl))
end nV
end Go.Own
