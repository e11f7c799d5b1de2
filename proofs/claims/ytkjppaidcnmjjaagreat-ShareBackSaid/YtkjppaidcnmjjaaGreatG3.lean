/- What functions compute, printed by wip/gen/gen2.py. -/
import Derived.Test.YtkjppaidcnmjjaaGreatG2
set_option linter.unusedVariables false
set_option linter.unusedSimpArgs false
namespace Go.Own
open Go.Proofs Go.Proofs.YtkjppaidcnmjjaaGreat
namespace bK
abbrev X:Type:=(List Int)×Int
noncomputable def res (x:(List Int)×Int):Res:=⟨[.val ⟨.arr 4 (.int .u64),x.1⟩,.val ⟨.int .i64,x.2⟩],[],[]⟩
noncomputable def brn (w:Bool×X):Brn Res:= .one w.1 (res w.2)
theorem aj (w:Bool×X):(brn w).res=(w.1,res w.2):=rfl
abbrev sh3:List (Nat×Sh):= [(0,.p (.ref bW)),(2,.p (.sl (.arr 4 (.int .u64)))),(6,.pb 503000 (.arr 4 (.int .u64)) []),(7,.p (.int .i64)),(8,.va 503001 (.arr 16 (.arr 4 (.int .u64)))),(12,.clo 79 []),(13,.pb 503002 (.arr 4 (.int .u64)) []),(14,.p (.int .i64)),(74,.p (.sl (.arr 4 (.int .u64)))),(75,.p (.int .i64)),(76,.p (.int .i64))]
abbrev bx3:List (Nat×Ty):= [(503000,.arr 4 (.int .u64)),(503001,.dyn (.arr 16 (.arr 4 (.int .u64)))),(503002,.arr 4 (.int .u64))]
abbrev Qa:List (Nat×Ty):= [(503000,.arr 4 (.int .u64)),(503001,.dyn (.arr 16 (.arr 4 (.int .u64)))),(503002,.arr 4 (.int .u64))]
abbrev MP:List (Nat×Sh):= []
abbrev OE:List (Nat×Ty):= []
abbrev Rm:List (Nat×Ty):= []
abbrev X3:Type:=(Option aG)×(List (List Int))×Unit×Int×Unit×Unit×Unit×Int×(List (List Int))×Int×Int×Unit
abbrev Y3:Type:=(List Int)×(Bool×List (List (List Int)))×(List Int)×Unit
abbrev U3:Type:=Unit
abbrev V3:Type:=Unit
noncomputable def g3 {Z:Type} (rq:Bool→Z→Z) (kn:X3→Y3→Z) (ke:Nat→X3→Y3→Z) (kr:U3→V3→Z) (x:X3) (y:Y3):Z:=
lt (ilt x.2.2.2.2.2.2.2.2.2.2.1 x.2.2.2.2.2.2.2.2.2.1) fun v929=>
bif v929 then
lt (x.2.2.2.2.2.2.2.2.1.getD x.2.2.2.2.2.2.2.2.2.2.1.toNat [0,0,0,0]) fun (v930:(List Int))=>
rq (ile (0:Int) x.2.2.2.2.2.2.2.2.2.2.1&&ilt x.2.2.2.2.2.2.2.2.2.2.1 (x.2.2.2.2.2.2.2.2.1.length:Int))<|
lt (iP.r v930 x.2.2.2.2.2.2.2.1) fun w960=>
rq w960.1<|
rq (ile (0:Int) x.2.2.2.2.2.2.2.2.2.2.1&&ilt x.2.2.2.2.2.2.2.2.2.2.1 (y.2.1.2.length:Int))<|
rq (ile (0:Int) w960.2&&ilt w960.2 16)<|
lt ((y.2.1.2.getD x.2.2.2.2.2.2.2.2.2.2.1.toNat [[0,0,0,0],[0,0,0,0],[0,0,0,0],[0,0,0,0],[0,0,0,0],[0,0,0,0],[0,0,0,0],[0,0,0,0],[0,0,0,0],[0,0,0,0],[0,0,0,0],[0,0,0,0],[0,0,0,0],[0,0,0,0],[0,0,0,0],[0,0,0,0]]).getD w960.2.toNat [0,0,0,0]) fun (v961:(List Int))=>
lt (bJ.r x.1 y.2.2.1 v961) fun w962=>
rq w962.1<|
lt (IntKind.i64.wrap (x.2.2.2.2.2.2.2.2.2.2.1+1)) fun v963=>
kn (x.1,x.2.1,(),x.2.2.2.1,(),(),(),x.2.2.2.2.2.2.2.1,x.2.2.2.2.2.2.2.2.1,x.2.2.2.2.2.2.2.2.2.1,v963,()) (y.1,y.2.1,w962.2,())
else
ke 6 (x.1,x.2.1,(),x.2.2.2.1,(),(),(),x.2.2.2.2.2.2.2.1,x.2.2.2.2.2.2.2.2.1,x.2.2.2.2.2.2.2.2.2.1,x.2.2.2.2.2.2.2.2.2.2.1,()) (y.1,y.2.1,y.2.2.1,())
noncomputable def fu3 (x:X3) (y:Y3):Nat:=(x.2.2.2.2.2.2.2.2.2.1 - x.2.2.2.2.2.2.2.2.2.2.1).toNat+1
noncomputable def l3 (x:X3) (y:Y3):Bool×Nat×X3×Y3×U3×V3:=rounds (fun rq kn ke kr x y=>g3 rq kn ke kr x y) () () (fu3 x y) x y
abbrev sh1:List (Nat×Sh):= [(0,.p (.ref bW)),(2,.p (.sl (.arr 4 (.int .u64)))),(6,.pb 501000 (.arr 4 (.int .u64)) []),(7,.p (.int .i64)),(8,.va 501001 (.arr 16 (.arr 4 (.int .u64)))),(12,.clo 79 []),(13,.pb 501002 (.arr 4 (.int .u64)) []),(14,.p (.int .i64))]
abbrev bx1:List (Nat×Ty):= [(501000,.arr 4 (.int .u64)),(501001,.dyn (.arr 16 (.arr 4 (.int .u64)))),(501002,.arr 4 (.int .u64))]
abbrev ow:List (Nat×Ty):= [(501000,.arr 4 (.int .u64)),(501001,.dyn (.arr 16 (.arr 4 (.int .u64)))),(501002,.arr 4 (.int .u64))]
abbrev mg:List (Nat×Sh):= []
abbrev mH:List (Nat×Ty):= []
abbrev qo:List (Nat×Ty):= []
abbrev X1:Type:=(Option aG)×(List (List Int))×Unit×Int×Unit×Unit×Unit×Int×Unit
abbrev Y1:Type:=(List Int)×(Bool×List (List (List Int)))×(List Int)×Unit
abbrev U1:Type:=Unit
abbrev V1:Type:=Unit
noncomputable def g1 {Z:Type} (rq:Bool→Z→Z) (kn:X1→Y1→Z) (ke:Nat→X1→Y1→Z) (kr:U1→V1→Z) (x:X1) (y:Y1):Z:=
lt (ilt 0 x.2.2.2.2.2.2.2.1) fun v917=>
bif v917 then
lt (IntKind.i64.wrap (x.2.2.2.2.2.2.2.1 - 4)) fun v918=>
lt (bJ.r x.1 y.2.2.1 y.2.2.1) fun w923=>
rq w923.1<|
lt (bJ.r x.1 w923.2 w923.2) fun w924=>
rq w924.1<|
lt (bJ.r x.1 w924.2 w924.2) fun w925=>
rq w925.1<|
lt (bJ.r x.1 w925.2 w925.2) fun w926=>
rq w926.1<|
lt (x.2.1.length:Int) fun (v927:Int)=>
lt (bK.l3 (x.1,x.2.1,(),x.2.2.2.1,(),(),(),v918,x.2.1,v927,0,()) (y.1,y.2.1,w926.2,())) fun w964=>
rq w964.1<|
kn (w964.2.2.1.1,w964.2.2.1.2.1,(),w964.2.2.1.2.2.2.1,(),(),(),w964.2.2.1.2.2.2.2.2.2.2.1,()) (w964.2.2.2.1.1,w964.2.2.2.1.2.1,w964.2.2.2.1.2.2.1,())
else
ke 2 (x.1,x.2.1,(),x.2.2.2.1,(),(),(),x.2.2.2.2.2.2.2.1,()) (y.1,y.2.1,y.2.2.1,())
noncomputable def fu1 (x:X1) (y:Y1):Nat:=(x.2.2.2.2.2.2.2.1 - (0:Int)).toNat+1
noncomputable def l1 (x:X1) (y:Y1):Bool×Nat×X1×Y1×U1×V1:=rounds (fun rq kn ke kr x y=>g1 rq kn ke kr x y) () () (fu1 x y) x y
abbrev sh0:List (Nat×Sh):= [(0,.p (.ref bW)),(2,.p (.sl (.arr 4 (.int .u64)))),(6,.pb 500000 (.arr 4 (.int .u64)) []),(7,.p (.int .i64)),(8,.va 500001 (.arr 16 (.arr 4 (.int .u64)))),(9,.p (.int .i64)),(33,.p (.sl (.arr 4 (.int .u64)))),(34,.p (.int .i64)),(35,.p (.int .i64))]
abbrev bx0:List (Nat×Ty):= [(500000,.arr 4 (.int .u64)),(500001,.dyn (.arr 16 (.arr 4 (.int .u64))))]
abbrev aW:List (Nat×Ty):= [(500000,.arr 4 (.int .u64)),(500001,.dyn (.arr 16 (.arr 4 (.int .u64))))]
abbrev aM:List (Nat×Sh):= []
abbrev aN:List (Nat×Ty):= []
abbrev bC:List (Nat×Ty):= []
abbrev X0:Type:=(Option aG)×(List (List Int))×Unit×Int×Unit×Int×(List (List Int))×Int×Int×Unit
abbrev Y0:Type:=(List Int)×(Bool×List (List (List Int)))×Unit
abbrev U0:Type:=Unit
abbrev V0:Type:=Unit
noncomputable def g0 {Z:Type} (rq:Bool→Z→Z) (kn:X0→Y0→Z) (ke:Nat→X0→Y0→Z) (kr:U0→V0→Z) (x:X0) (y:Y0):Z:=
lt (ilt x.2.2.2.2.2.2.2.2.1 x.2.2.2.2.2.2.2.1) fun v901=>
bif v901 then
lt (x.2.2.2.2.2.2.1.getD x.2.2.2.2.2.2.2.2.1.toNat [0,0,0,0]) fun (v902:(List Int))=>
rq (ile (0:Int) x.2.2.2.2.2.2.2.2.1&&ilt x.2.2.2.2.2.2.2.2.1 (x.2.2.2.2.2.2.1.length:Int))<|
lt (eD.r x.1 v902) fun w903=>
rq w903.1<|
lt (y.2.1.1&&false) fun (v904:Bool)=>
lt (y.2.1.2++ [w903.2]) fun (v905:(List (List (List Int))))=>
rq (nle ((2*(y.2.1.2.length+1)+512)*512) 70368744177664)<|
lt (x.2.1.getD x.2.2.2.2.2.2.2.2.1.toNat [0,0,0,0]) fun (v906:(List Int))=>
rq (ile (0:Int) x.2.2.2.2.2.2.2.2.1&&ilt x.2.2.2.2.2.2.2.2.1 (x.2.1.length:Int))<|
lt (qD.r v906) fun w907=>
rq w907.1<|
lt (bif ilt x.2.2.2.2.2.1 w907.2 then w907.2 else x.2.2.2.2.2.1) fun (v908:Int)=>
lt (IntKind.i64.wrap (x.2.2.2.2.2.2.2.2.1+1)) fun v909=>
kn (x.1,x.2.1,(),x.2.2.2.1,(),v908,x.2.2.2.2.2.2.1,x.2.2.2.2.2.2.2.1,v909,()) (y.1,(v904,v905),())
else
ke 0 (x.1,x.2.1,(),x.2.2.2.1,(),x.2.2.2.2.2.1,x.2.2.2.2.2.2.1,x.2.2.2.2.2.2.2.1,x.2.2.2.2.2.2.2.2.1,()) (y.1,y.2.1,())
noncomputable def fu0 (x:X0) (y:Y0):Nat:=(x.2.2.2.2.2.2.2.1 - x.2.2.2.2.2.2.2.2.1).toNat+1
noncomputable def l0 (x:X0) (y:Y0):Bool×Nat×X0×Y0×U0×V0:=rounds (fun rq kn ke kr x y=>g0 rq kn ke kr x y) () () (fu0 x y) x y
noncomputable def g {Z:Type} (rq:Bool→Z→Z) (rt:X→Z) (rx:(Option aG)) (bases:(List (List Int))) (exps:(List (List Int))):Z:=
lt (dW.r rx) fun w893=>
rq w893.1<|
lt (!w893.2) fun (v894:Bool)=>
bif v894 then
rt ([0,0,0,0],1)
else
lt (bases.length:Int) fun (v895:Int)=>
lt (exps.length:Int) fun (v896:Int)=>
lt (v895 != v896) fun (v897:Bool)=>
bif v897 then
rt ([0,0,0,0],1)
else
lt (bases.length:Int) fun (v898:Int)=>
lt (ilt 64 v898) fun v899=>
bif v899 then
rt ([0,0,0,0],1)
else
lt (bases.length:Int) fun (v900:Int)=>
lt (bK.l0 (rx,exps,(),0,(),0,bases,v900,0,()) ([0,0,0,0],(true,[]),())) fun w910=>
rq w910.1<|
lt (w910.2.2.1.1.getD eu) fun (v911:aG)=>
rq w910.2.2.1.1.isSome<|
lt (IntKind.i64.wrap (w910.2.2.1.2.2.2.2.2.1+4)) fun v912=>
lt (IntKind.i64.wrap (v912 - 1)) fun v913=>
lt (IntKind.i64.wrap (v913.tdiv 4)) fun v914=>
lt (IntKind.i64.wrap (v914*4)) fun v915=>
lt (bK.l1 (w910.2.2.1.1,w910.2.2.1.2.1,(),w910.2.2.1.2.2.2.1,(),(),(),v915,()) (w910.2.2.2.1.1,w910.2.2.2.1.2.1,v911.2.2.1,())) fun w965=>
rq w965.1<|
lt (eO.r 1) fun w966=>
rq w966.1<|
lt (bJ.r w965.2.2.1.1 w965.2.2.2.1.2.2.1 w966.2) fun w967=>
rq w967.1<|
rt (w967.2,0)
noncomputable def r (rx:(Option aG)) (bases:(List (List Int))) (exps:(List (List Int))):Bool×X:=g chk (fun x=>(true,x)) rx bases exps
noncomputable def D:aP:=Dof (P:=Tryz.prog) [dW.ent,eD.ent,qD.ent,bJ.ent,iP.ent,eO.ent]
noncomputable def tab:List (Nat×LE Res):= [(22,.typed (fH 98 sh3 bx3 Qa MP OE (bf [7] (rounds (fun rq kn ke kr x y=>g3 rq kn ke kr x y) () ()) fu3))),(15,.typed (fH 98 sh1 bx1 ow mg mH (bf [3] (rounds (fun rq kn ke kr x y=>g1 rq kn ke kr x y) () ()) fu1))),(7,.typed (fH 98 sh0 bx0 aW aM aN (bf [1] (rounds (fun rq kn ke kr x y=>g0 rq kn ke kr x y) () ()) fu0)))]
set_option maxRecDepth 100000 in
theorem run (rx:(Option aG)) (bases:(List (List Int))) (exps:(List (List Int))):aQ E0 [true,true] D (aJ E0 D tab 9) Tryz.f52 (codeOf Tryz.f52) [.val ⟨.ref bW,rx⟩,.val ⟨.sl (.arr 4 (.int .u64)),bases⟩,.val ⟨.sl (.arr 4 (.int .u64)),exps⟩] []=g (fun c z=>req c z) (fun x=>some (res x)) rx bases exps:=by kernel_rfl
theorem rel (rx:(Option aG)) (bases:(List (List Int))) (exps:(List (List Int))):J (fun w z=>z=some (res w)) (g chk (fun x=>(true,x)) rx bases exps) (g (fun c z=>req c z) (fun x=>some (res x)) rx bases exps):=by
 unfold g
 with_reducible repeat (first|(apply J.lt; intro _)|apply J.rq|apply J.bif|exact J.rt rfl)
set_option maxRecDepth 100000 in
theorem RP (x:ShX sh3) (y:BxX bx3) (kn:ShX sh3→BxX bx3→Option Res) (ke:Nat→ShX sh3→BxX bx3→Option Res) (kr:ShX MP→BxX OE→Option Res):d9 E0 D (aJ E0 D tab 8) (aD (codeOf Tryz.f52) 3) (inj 98 sh3 bx3 x y) (dN sh3 bx3 Qa MP OE Rm kn ke kr)=g3 (fun c z=>req c z) kn ke kr x y:=by kernel_rfl
theorem Tq:Nonempty (Told E0 D tab Tryz.f52.ntmps (aD (codeOf Tryz.f52) 3) 98 sh3 bx3 Qa MP OE (bf [7] (rounds (fun rq kn ke kr x y=>g3 rq kn ke kr x y) () ()) fu3)):=
 dh (sh:=sh3) (bx:=bx3) (ord:=Qa) (shR:=MP) (bxR:=OE) Rm 8 (by kernel_rfl) (by kernel_rfl) (by kernel_rfl) [7] fu3 () () (fun rq kn ke kr x y=>g3 rq kn ke kr x y) (fun rq kn ke kr x y=>g3 rq kn ke kr x y) (RP) (by
  intro φ kn1 kn2 ke1 ke2 kr1 kr2 h1 h2 h3 x y
  simp only [g3]
  with_reducible repeat (first|(apply J.lt; intro _)|apply J.rq|apply J.bif|exact h1 _ _|exact h2 _ (by decide) _ _|exact h3 (by decide) _ _))
set_option maxRecDepth 100000 in
theorem rJ (x:ShX sh1) (y:BxX bx1) (kn:ShX sh1→BxX bx1→Option Res) (ke:Nat→ShX sh1→BxX bx1→Option Res) (kr:ShX mg→BxX mH→Option Res):d9 E0 D (aJ E0 D tab 8) (aD (codeOf Tryz.f52) 1) (inj 98 sh1 bx1 x y) (dN sh1 bx1 ow mg mH qo kn ke kr)=g1 (fun c z=>req c z) kn ke kr x y:=by kernel_rfl
theorem vQ:Nonempty (Told E0 D tab Tryz.f52.ntmps (aD (codeOf Tryz.f52) 1) 98 sh1 bx1 ow mg mH (bf [3] (rounds (fun rq kn ke kr x y=>g1 rq kn ke kr x y) () ()) fu1)):=
 dh (sh:=sh1) (bx:=bx1) (ord:=ow) (shR:=mg) (bxR:=mH) qo 8 (by kernel_rfl) (by kernel_rfl) (by kernel_rfl) [3] fu1 () () (fun rq kn ke kr x y=>g1 rq kn ke kr x y) (fun rq kn ke kr x y=>g1 rq kn ke kr x y) (rJ) (by
  intro φ kn1 kn2 ke1 ke2 kr1 kr2 h1 h2 h3 x y
  simp only [g1]
  with_reducible repeat (first|(apply J.lt; intro _)|apply J.rq|apply J.bif|exact h1 _ _|exact h2 _ (by decide) _ _|exact h3 (by decide) _ _))
set_option maxRecDepth 100000 in
theorem bG (x:ShX sh0) (y:BxX bx0) (kn:ShX sh0→BxX bx0→Option Res) (ke:Nat→ShX sh0→BxX bx0→Option Res) (kr:ShX aM→BxX aN→Option Res):d9 E0 D (aJ E0 D tab 8) (aD (codeOf Tryz.f52) 0) (inj 98 sh0 bx0 x y) (dN sh0 bx0 aW aM aN bC kn ke kr)=g0 (fun c z=>req c z) kn ke kr x y:=by kernel_rfl
theorem cB:Nonempty (Told E0 D tab Tryz.f52.ntmps (aD (codeOf Tryz.f52) 0) 98 sh0 bx0 aW aM aN (bf [1] (rounds (fun rq kn ke kr x y=>g0 rq kn ke kr x y) () ()) fu0)):=
 dh (sh:=sh0) (bx:=bx0) (ord:=aW) (shR:=aM) (bxR:=aN) bC 8 (by kernel_rfl) (by kernel_rfl) (by kernel_rfl) [1] fu0 () () (fun rq kn ke kr x y=>g0 rq kn ke kr x y) (fun rq kn ke kr x y=>g0 rq kn ke kr x y) (bG) (by
  intro φ kn1 kn2 ke1 ke2 kr1 kr2 h1 h2 h3 x y
  simp only [g0]
  with_reducible repeat (first|(apply J.lt; intro _)|apply J.rq|apply J.bif|exact h1 _ _|exact h2 _ (by decide) _ _|exact h3 (by decide) _ _))
theorem cK:fQ E0 D tab Tryz.f52.ntmps (codeOf Tryz.f52):=bY (bs:= [aD (codeOf Tryz.f52) 0,aD (codeOf Tryz.f52) 1,aD (codeOf Tryz.f52) 2,aD (codeOf Tryz.f52) 3]) (by kernel_rfl) (aK (cZ (by kernel_rfl) (cB)) (aK (cZ (by kernel_rfl) (vQ)) (aK (Tw (by kernel_rfl)) (aK (cZ (by kernel_rfl) (Tq)) bn))))
theorem ok:dD Tryz.f52=true:=by kernel_rfl
abbrev aS:List AS:= [.one (.val (.ref bW)),.one (.val (.sl (.arr 4 (.int .u64)))),.one (.val (.sl (.arr 4 (.int .u64))))]
abbrev bS:List Ty:= []
noncomputable def F (x:ASs aS) (y:Bs bS):Brn Res:=brn (r x.1 x.2.1 x.2.2.1)
theorem good (x:ASs aS) (y:Bs bS) (h:(F x y).res.1=true):Good Tryz.prog 52 (ASs.mk aS x) (Bs.mk bS y) (F x y).res.2:=
 aF hE0 (aA _) Tryz.func52 ok cK aj (run x.1 x.2.1 x.2.2.1) (rel x.1 x.2.1 x.2.2.1) h
noncomputable def ent:Ent Tryz.prog:=⟨52,shF aS bS F,aB good⟩
end bK
namespace fV
abbrev X:Type:=(List Int)
noncomputable def res (x:(List Int)):Res:=⟨[.val ⟨.arr 4 (.int .u64),x⟩],[],[]⟩
noncomputable def brn (w:Bool×X):Brn Res:= .one w.1 (res w.2)
theorem aj (w:Bool×X):(brn w).res=(w.1,res w.2):=rfl
noncomputable def g {Z:Type} (rq:Bool→Z→Z) (rt:X→Z) (rx:(Option aG)) (a:(List Int)) (e:(List Int)):Z:=
lt (bK.r rx [a] [e]) fun w968=>
rq w968.1<|
rt w968.2.1
noncomputable def r (rx:(Option aG)) (a:(List Int)) (e:(List Int)):Bool×X:=g chk (fun x=>(true,x)) rx a e
noncomputable def D:aP:=Dof (P:=Tryz.prog) [bK.ent]
noncomputable def tab:List (Nat×LE Res):= []
set_option maxRecDepth 100000 in
theorem run (rx:(Option aG)) (a:(List Int)) (e:(List Int)):aQ E0 [true] D (aJ E0 D tab 9) Tryz.f31 (codeOf Tryz.f31) [.val ⟨.ref bW,rx⟩,.val ⟨.arr 4 (.int .u64),a⟩,.val ⟨.arr 4 (.int .u64),e⟩] []=g (fun c z=>req c z) (fun x=>some (res x)) rx a e:=by kernel_rfl
theorem rel (rx:(Option aG)) (a:(List Int)) (e:(List Int)):J (fun w z=>z=some (res w)) (g chk (fun x=>(true,x)) rx a e) (g (fun c z=>req c z) (fun x=>some (res x)) rx a e):=by
 unfold g
 with_reducible repeat (first|(apply J.lt; intro _)|apply J.rq|apply J.bif|exact J.rt rfl)
theorem ok:dD Tryz.f31=true:=by kernel_rfl
abbrev aS:List AS:= [.one (.val (.ref bW)),.one (.val (.arr 4 (.int .u64))),.one (.val (.arr 4 (.int .u64)))]
abbrev bS:List Ty:= []
noncomputable def F (x:ASs aS) (y:Bs bS):Brn Res:=brn (r x.1 x.2.1 x.2.2.1)
theorem good (x:ASs aS) (y:Bs bS) (h:(F x y).res.1=true):Good Tryz.prog 31 (ASs.mk aS x) (Bs.mk bS y) (F x y).res.2:=
 aF hE0 (aA _) Tryz.func31 ok aO aj (run x.1 x.2.1 x.2.2.1) (rel x.1 x.2.1 x.2.2.1) h
noncomputable def ent:Ent Tryz.prog:=⟨31,shF aS bS F,aB good⟩
end fV
namespace qF
abbrev X:Type:=(List Int)×Int
noncomputable def res (x:(List Int)×Int):Res:=⟨[.val ⟨.arr 4 (.int .u64),x.1⟩,.val ⟨.int .i64,x.2⟩],[],[]⟩
noncomputable def brn (w:Bool×X):Brn Res:= .one w.1 (res w.2)
theorem aj (w:Bool×X):(brn w).res=(w.1,res w.2):=rfl
noncomputable def g {Z:Type} (rq:Bool→Z→Z) (rt:X→Z) (a:(List Int)) (b:(List Int)):Z:=
lt (a.getD 0 0) fun (v995:Int)=>
lt (b.getD 0 0) fun (v996:Int)=>
lt ((v995+v996+(0:Int))%18446744073709551616) fun (v997:Int)=>
lt ((v995+v996+(0:Int))/18446744073709551616) fun (v998:Int)=>
rq (((ile 0 v995&&ile 0 v996)&&ile 0 (0:Int))&&ile (0:Int) 1)<|
lt (a.getD 1 0) fun (v999:Int)=>
lt (b.getD 1 0) fun (v1000:Int)=>
lt ((v999+v1000+v998)%18446744073709551616) fun (v1001:Int)=>
lt ((v999+v1000+v998)/18446744073709551616) fun (v1002:Int)=>
rq (((ile 0 v999&&ile 0 v1000)&&ile 0 v998)&&ile v998 1)<|
lt (a.getD 2 0) fun (v1003:Int)=>
lt (b.getD 2 0) fun (v1004:Int)=>
lt ((v1003+v1004+v1002)%18446744073709551616) fun (v1005:Int)=>
lt ((v1003+v1004+v1002)/18446744073709551616) fun (v1006:Int)=>
rq (((ile 0 v1003&&ile 0 v1004)&&ile 0 v1002)&&ile v1002 1)<|
lt (a.getD 3 0) fun (v1007:Int)=>
lt (b.getD 3 0) fun (v1008:Int)=>
lt ((v1007+v1008+v1006)%18446744073709551616) fun (v1009:Int)=>
lt ((v1007+v1008+v1006)/18446744073709551616) fun (v1010:Int)=>
rq (((ile 0 v1007&&ile 0 v1008)&&ile 0 v1006)&&ile v1006 1)<|
lt (IntKind.i64.wrap (v1010)) fun v1011=>
rt ([v997,v1001,v1005,v1009],v1011)
noncomputable def r (a:(List Int)) (b:(List Int)):Bool×X:=g chk (fun x=>(true,x)) a b
noncomputable def D:aP:=Dof (P:=Tryz.prog) [pU]
noncomputable def tab:List (Nat×LE Res):= []
set_option maxRecDepth 100000 in
theorem run (a:(List Int)) (b:(List Int)):aQ E0 [true,true] D (aJ E0 D tab 9) Tryz.f92 (codeOf Tryz.f92) [.val ⟨.arr 4 (.int .u64),a⟩,.val ⟨.arr 4 (.int .u64),b⟩] []=g (fun c z=>req c z) (fun x=>some (res x)) a b:=by kernel_rfl
theorem rel (a:(List Int)) (b:(List Int)):J (fun w z=>z=some (res w)) (g chk (fun x=>(true,x)) a b) (g (fun c z=>req c z) (fun x=>some (res x)) a b):=by
 unfold g
 with_reducible repeat (first|(apply J.lt; intro _)|apply J.rq|apply J.bif|exact J.rt rfl)
theorem ok:dD Tryz.f92=true:=by kernel_rfl
abbrev aS:List AS:= [.one (.val (.arr 4 (.int .u64))),.one (.val (.arr 4 (.int .u64)))]
abbrev bS:List Ty:= []
noncomputable def F (x:ASs aS) (y:Bs bS):Brn Res:=brn (r x.1 x.2.1)
theorem good (x:ASs aS) (y:Bs bS) (h:(F x y).res.1=true):Good Tryz.prog 92 (ASs.mk aS x) (Bs.mk bS y) (F x y).res.2:=
 aF hE0 (aA _) Tryz.func92 ok aO aj (run x.1 x.2.1) (rel x.1 x.2.1) h
noncomputable def ent:Ent Tryz.prog:=⟨92,shF aS bS F,aB good⟩
end qF
namespace iA
abbrev X:Type:=(List Int)×Int
noncomputable def res (x:(List Int)×Int):Res:=⟨[.val ⟨.arr 4 (.int .u64),x.1⟩,.val ⟨.int .i64,x.2⟩],[],[]⟩
noncomputable def brn (w:Bool×X):Brn Res:= .one w.1 (res w.2)
theorem aj (w:Bool×X):(brn w).res=(w.1,res w.2):=rfl
noncomputable def g {Z:Type} (rq:Bool→Z→Z) (rt:X→Z) (a:(List Int)) (b:(List Int)) (m:(List Int)):Z:=
lt (gK.r a [0,0,0,0] m) fun w974=>
rq w974.1<|
lt (w974.2.2 != 0) fun (v975:Bool)=>
bif v975 then
rt ([0,0,0,0],w974.2.2)
else
lt (gK.r b [0,0,0,0] m) fun w976=>
rq w976.1<|
lt (jI.r w974.2.1 w976.2.1) fun w977=>
rq w977.1<|
lt (w977.2.2== 1) fun (v978:Bool)=>
bif v978 then
lt (qF.r w977.2.1 m) fun w1012=>
rq w1012.1<|
rt (w1012.2.1,0)
else
rt (w977.2.1,0)
noncomputable def r (a:(List Int)) (b:(List Int)) (m:(List Int)):Bool×X:=g chk (fun x=>(true,x)) a b m
noncomputable def D:aP:=Dof (P:=Tryz.prog) [gK.ent,jI.ent,qF.ent]
noncomputable def tab:List (Nat×LE Res):= []
set_option maxRecDepth 100000 in
theorem run (a:(List Int)) (b:(List Int)) (m:(List Int)):aQ E0 [true,true] D (aJ E0 D tab 9) Tryz.f75 (codeOf Tryz.f75) [.val ⟨.arr 4 (.int .u64),a⟩,.val ⟨.arr 4 (.int .u64),b⟩,.val ⟨.arr 4 (.int .u64),m⟩] []=g (fun c z=>req c z) (fun x=>some (res x)) a b m:=by kernel_rfl
theorem rel (a:(List Int)) (b:(List Int)) (m:(List Int)):J (fun w z=>z=some (res w)) (g chk (fun x=>(true,x)) a b m) (g (fun c z=>req c z) (fun x=>some (res x)) a b m):=by
 unfold g
 with_reducible repeat (first|(apply J.lt; intro _)|apply J.rq|apply J.bif|exact J.rt rfl)
theorem ok:dD Tryz.f75=true:=by kernel_rfl
abbrev aS:List AS:= [.one (.val (.arr 4 (.int .u64))),.one (.val (.arr 4 (.int .u64))),.one (.val (.arr 4 (.int .u64)))]
abbrev bS:List Ty:= []
noncomputable def F (x:ASs aS) (y:Bs bS):Brn Res:=brn (r x.1 x.2.1 x.2.2.1)
theorem good (x:ASs aS) (y:Bs bS) (h:(F x y).res.1=true):Good Tryz.prog 75 (ASs.mk aS x) (Bs.mk bS y) (F x y).res.2:=
 aF hE0 (aA _) Tryz.func75 ok aO aj (run x.1 x.2.1 x.2.2.1) (rel x.1 x.2.1 x.2.2.1) h
noncomputable def ent:Ent Tryz.prog:=⟨75,shF aS bS F,aB good⟩
end iA
namespace kI
abbrev X:Type:=(List Int)
noncomputable def res (x:(List Int)):Res:=⟨[.val ⟨.arr 4 (.int .u64),x⟩],[],[]⟩
noncomputable def brn (w:Bool×X):Brn Res:= .one w.1 (res w.2)
theorem aj (w:Bool×X):(brn w).res=(w.1,res w.2):=rfl
abbrev sh0:List (Nat×Sh):= [(2,.pb 500000 (.arr 4 (.int .u64)) []),(3,.pb 500001 (.arr 4 (.int .u64)) []),(4,.pb 500002 (.arr 4 (.int .u64)) [])]
abbrev bx0:List (Nat×Ty):= [(500000,.arr 4 (.int .u64)),(500001,.arr 4 (.int .u64)),(500002,.arr 4 (.int .u64))]
abbrev aW:List (Nat×Ty):= [(500000,.arr 4 (.int .u64)),(500001,.arr 4 (.int .u64)),(500002,.arr 4 (.int .u64))]
abbrev aM:List (Nat×Sh):= []
abbrev aN:List (Nat×Ty):= []
abbrev bC:List (Nat×Ty):= []
abbrev X0:Type:=Unit×Unit×Unit×Unit
abbrev Y0:Type:=(List Int)×(List Int)×(List Int)×Unit
abbrev U0:Type:=Unit
abbrev V0:Type:=Unit
noncomputable def g0 {Z:Type} (rq:Bool→Z→Z) (kn:X0→Y0→Z) (ke:Nat→X0→Y0→Z) (kr:U0→V0→Z) (x:X0) (y:Y0):Z:=
lt (!(ieq (y.2.1.getD 0 0) 0&&(ieq (y.2.1.getD 1 0) 0&&(ieq (y.2.1.getD 2 0) 0&&(ieq (y.2.1.getD 3 0) 0&&true))))) fun (v1015:Bool)=>
bif v1015 then
lt (kX.r y.1 y.2.1) fun w1016=>
rq w1016.1<|
kn ((),(),(),()) (y.2.1,w1016.2.2.1,y.2.2.1,())
else
ke 0 ((),(),(),()) (y.1,y.2.1,y.2.2.1,())
noncomputable def fu0 (x:X0) (y:Y0):Nat:=uJ
noncomputable def l0 (x:X0) (y:Y0):Bool×Nat×X0×Y0×U0×V0:=rounds (fun rq kn ke kr x y=>g0 rq kn ke kr x y) () () (fu0 x y) x y
noncomputable def g {Z:Type} (rq:Bool→Z→Z) (rt:X→Z) (a:(List Int)) (b:(List Int)):Z:=
lt (kI.l0 ((),(),(),()) (a,b,[0,0,0,0],())) fun w1017=>
rq w1017.1<|
rt w1017.2.2.2.1.1
noncomputable def r (a:(List Int)) (b:(List Int)):Bool×X:=g chk (fun x=>(true,x)) a b
noncomputable def D:aP:=Dof (P:=Tryz.prog) [kX.ent]
noncomputable def tab:List (Nat×LE Res):= [(2,.typed (fH 21 sh0 bx0 aW aM aN (bf [1] (rounds (fun rq kn ke kr x y=>g0 rq kn ke kr x y) () ()) fu0)))]
set_option maxRecDepth 100000 in
theorem run (a:(List Int)) (b:(List Int)):aQ E0 [true] D (aJ E0 D tab 9) Tryz.f76 (codeOf Tryz.f76) [.val ⟨.arr 4 (.int .u64),a⟩,.val ⟨.arr 4 (.int .u64),b⟩] []=g (fun c z=>req c z) (fun x=>some (res x)) a b:=by kernel_rfl
theorem rel (a:(List Int)) (b:(List Int)):J (fun w z=>z=some (res w)) (g chk (fun x=>(true,x)) a b) (g (fun c z=>req c z) (fun x=>some (res x)) a b):=by
 unfold g
 with_reducible repeat (first|(apply J.lt; intro _)|apply J.rq|apply J.bif|exact J.rt rfl)
set_option maxRecDepth 100000 in
theorem bG (x:ShX sh0) (y:BxX bx0) (kn:ShX sh0→BxX bx0→Option Res) (ke:Nat→ShX sh0→BxX bx0→Option Res) (kr:ShX aM→BxX aN→Option Res):d9 E0 D (aJ E0 D tab 8) (aD (codeOf Tryz.f76) 0) (inj 21 sh0 bx0 x y) (dN sh0 bx0 aW aM aN bC kn ke kr)=g0 (fun c z=>req c z) kn ke kr x y:=by kernel_rfl
theorem cB:Nonempty (Told E0 D tab Tryz.f76.ntmps (aD (codeOf Tryz.f76) 0) 21 sh0 bx0 aW aM aN (bf [1] (rounds (fun rq kn ke kr x y=>g0 rq kn ke kr x y) () ()) fu0)):=
 dh (sh:=sh0) (bx:=bx0) (ord:=aW) (shR:=aM) (bxR:=aN) bC 8 (by kernel_rfl) (by kernel_rfl) (by kernel_rfl) [1] fu0 () () (fun rq kn ke kr x y=>g0 rq kn ke kr x y) (fun rq kn ke kr x y=>g0 rq kn ke kr x y) (bG) (by
  intro φ kn1 kn2 ke1 ke2 kr1 kr2 h1 h2 h3 x y
  simp only [g0]
  with_reducible repeat (first|(apply J.lt; intro _)|apply J.rq|apply J.bif|exact h1 _ _|exact h2 _ (by decide) _ _|exact h3 (by decide) _ _))
theorem cK:fQ E0 D tab Tryz.f76.ntmps (codeOf Tryz.f76):=bY (bs:= [aD (codeOf Tryz.f76) 0]) (by kernel_rfl) (aK (cZ (by kernel_rfl) (cB)) bn)
theorem ok:dD Tryz.f76=true:=by kernel_rfl
abbrev aS:List AS:= [.one (.val (.arr 4 (.int .u64))),.one (.val (.arr 4 (.int .u64)))]
abbrev bS:List Ty:= []
noncomputable def F (x:ASs aS) (y:Bs bS):Brn Res:=brn (r x.1 x.2.1)
theorem good (x:ASs aS) (y:Bs bS) (h:(F x y).res.1=true):Good Tryz.prog 76 (ASs.mk aS x) (Bs.mk bS y) (F x y).res.2:=
 aF hE0 (aA _) Tryz.func76 ok cK aj (run x.1 x.2.1) (rel x.1 x.2.1) h
noncomputable def ent:Ent Tryz.prog:=⟨76,shF aS bS F,aB good⟩
end kI
namespace nI
abbrev X:Type:=Bool
noncomputable def res (x:Bool):Res:=⟨[.val ⟨.bool,x⟩],[],[]⟩
noncomputable def brn (w:Bool×X):Brn Res:= .one w.1 (res w.2)
theorem aj (w:Bool×X):(brn w).res=(w.1,res w.2):=rfl
noncomputable def g {Z:Type} (rq:Bool→Z→Z) (rt:X→Z) (n:(List Int)) (factor:(List Int)) (witness:Int):Z:=
lt (jR.r n) fun w613=>
rq w613.1<|
lt (w613.2.2 != 0) fun (v614:Bool)=>
bif v614 then
rt false
else
lt (ilt witness 2) fun v615=>
bif v615 then
rt false
else
lt (ile 65536 witness) fun v616=>
bif v616 then
rt false
else
lt (ieq (factor.getD 0 0) 0&&(ieq (factor.getD 1 0) 0&&(ieq (factor.getD 2 0) 0&&(ieq (factor.getD 3 0) 0&&true)))) fun v617=>
bif v617 then
rt false
else
lt (eO.r 1) fun w618=>
rq w618.1<|
lt (jI.r n w618.2) fun w619=>
rq w619.1<|
lt (kX.r w619.2.1 factor) fun w622=>
rq w622.1<|
lt (mK.r factor factor) fun w623=>
rq w623.1<|
lt (!(ieq (w622.2.2.1.getD 0 0) 0&&(ieq (w622.2.2.1.getD 1 0) 0&&(ieq (w622.2.2.1.getD 2 0) 0&&(ieq (w622.2.2.1.getD 3 0) 0&&true))))) fun (v624:Bool)=>
bif v624 then
rt false
else
lt (ieq (w623.2.2.getD 0 0) 0&&(ieq (w623.2.2.getD 1 0) 0&&(ieq (w623.2.2.getD 2 0) 0&&(ieq (w623.2.2.getD 3 0) 0&&true)))) fun v625=>
bif v625 then
lt (jm.r w623.2.1 n) fun w626=>
rq w626.1<|
lt (ile w626.2 0) fun v627=>
bif v627 then
rt false
else
lt (eO.r witness) fun w628=>
rq w628.1<|
lt (fV.r w613.2.1 w628.2 w622.2.1) fun w969=>
rq w969.1<|
lt (fV.r w613.2.1 w969.2 factor) fun w970=>
rq w970.1<|
lt (eO.r 1) fun w971=>
rq w971.1<|
lt (!(ieq (w970.2.getD 0 0) (w971.2.getD 0 0)&&(ieq (w970.2.getD 1 0) (w971.2.getD 1 0)&&(ieq (w970.2.getD 2 0) (w971.2.getD 2 0)&&(ieq (w970.2.getD 3 0) (w971.2.getD 3 0)&&true))))) fun (v972:Bool)=>
bif v972 then
rt false
else
lt (eO.r 1) fun w973=>
rq w973.1<|
lt (iA.r w969.2 w973.2 n) fun w1013=>
rq w1013.1<|
lt (kI.r w1013.2.1 n) fun w1018=>
rq w1018.1<|
lt (eO.r 1) fun w1019=>
rq w1019.1<|
lt (ieq (w1018.2.getD 0 0) (w1019.2.getD 0 0)&&(ieq (w1018.2.getD 1 0) (w1019.2.getD 1 0)&&(ieq (w1018.2.getD 2 0) (w1019.2.getD 2 0)&&(ieq (w1018.2.getD 3 0) (w1019.2.getD 3 0)&&true)))) fun v1020=>
rt v1020
else
lt (eO.r witness) fun w1021=>
rq w1021.1<|
lt (fV.r w613.2.1 w1021.2 w622.2.1) fun w1022=>
rq w1022.1<|
lt (fV.r w613.2.1 w1022.2 factor) fun w1023=>
rq w1023.1<|
lt (eO.r 1) fun w1024=>
rq w1024.1<|
lt (!(ieq (w1023.2.getD 0 0) (w1024.2.getD 0 0)&&(ieq (w1023.2.getD 1 0) (w1024.2.getD 1 0)&&(ieq (w1023.2.getD 2 0) (w1024.2.getD 2 0)&&(ieq (w1023.2.getD 3 0) (w1024.2.getD 3 0)&&true))))) fun (v1025:Bool)=>
bif v1025 then
rt false
else
lt (eO.r 1) fun w1026=>
rq w1026.1<|
lt (iA.r w1022.2 w1026.2 n) fun w1027=>
rq w1027.1<|
lt (kI.r w1027.2.1 n) fun w1028=>
rq w1028.1<|
lt (eO.r 1) fun w1029=>
rq w1029.1<|
lt (ieq (w1028.2.getD 0 0) (w1029.2.getD 0 0)&&(ieq (w1028.2.getD 1 0) (w1029.2.getD 1 0)&&(ieq (w1028.2.getD 2 0) (w1029.2.getD 2 0)&&(ieq (w1028.2.getD 3 0) (w1029.2.getD 3 0)&&true)))) fun v1030=>
rt v1030
noncomputable def r (n:(List Int)) (factor:(List Int)) (witness:Int):Bool×X:=g chk (fun x=>(true,x)) n factor witness
noncomputable def D:aP:=Dof (P:=Tryz.prog) [jR.ent,eO.ent,jI.ent,kX.ent,mK.ent,jm.ent,fV.ent,iA.ent,kI.ent]
noncomputable def tab:List (Nat×LE Res):= []
set_option maxRecDepth 100000 in
theorem run (n:(List Int)) (factor:(List Int)) (witness:Int):aQ E0 [true] D (aJ E0 D tab 9) Tryz.f46 (codeOf Tryz.f46) [.val ⟨.arr 4 (.int .u64),n⟩,.val ⟨.arr 4 (.int .u64),factor⟩,.val ⟨.int .i64,witness⟩] []=g (fun c z=>req c z) (fun x=>some (res x)) n factor witness:=by kernel_rfl
theorem rel (n:(List Int)) (factor:(List Int)) (witness:Int):J (fun w z=>z=some (res w)) (g chk (fun x=>(true,x)) n factor witness) (g (fun c z=>req c z) (fun x=>some (res x)) n factor witness):=by
 unfold g
 with_reducible repeat (first|(apply J.lt; intro _)|apply J.rq|apply J.bif|exact J.rt rfl)
theorem ok:dD Tryz.f46=true:=by kernel_rfl
abbrev aS:List AS:= [.one (.val (.arr 4 (.int .u64))),.one (.val (.arr 4 (.int .u64))),.one (.val (.int .i64))]
abbrev bS:List Ty:= []
noncomputable def F (x:ASs aS) (y:Bs bS):Brn Res:=brn (r x.1 x.2.1 x.2.2.1)
theorem good (x:ASs aS) (y:Bs bS) (h:(F x y).res.1=true):Good Tryz.prog 46 (ASs.mk aS x) (Bs.mk bS y) (F x y).res.2:=
 aF hE0 (aA _) Tryz.func46 ok aO aj (run x.1 x.2.1 x.2.2.1) (rel x.1 x.2.1 x.2.2.1) h
noncomputable def ent:Ent Tryz.prog:=⟨46,shF aS bS F,aB good⟩
end nI
namespace fF
abbrev X:Type:=Int
noncomputable def res (x:Int):Res:=⟨[.val ⟨.int .i64,x⟩],[],[]⟩
noncomputable def brn (w:Bool×X):Brn Res:= .one w.1 (res w.2)
theorem aj (w:Bool×X):(brn w).res=(w.1,res w.2):=rfl
abbrev sh0:List (Nat×Sh):= [(0,.p (.sl iW)),(2,.p (.int .i64)),(5,.p (.int .i64))]
abbrev bx0:List (Nat×Ty):= []
abbrev aW:List (Nat×Ty):= []
abbrev aM:List (Nat×Sh):= [(2,.p (.int .i64))]
abbrev aN:List (Nat×Ty):= []
abbrev bC:List (Nat×Ty):= []
abbrev X0:Type:=(List gB)×Int×Int×Unit
abbrev Y0:Type:=Unit
abbrev U0:Type:=Int×Unit
abbrev V0:Type:=Unit
noncomputable def g0 {Z:Type} (rq:Bool→Z→Z) (kn:X0→Y0→Z) (ke:Nat→X0→Y0→Z) (kr:U0→V0→Z) (x:X0) (y:Y0):Z:=
lt (x.1.length:Int) fun (v41:Int)=>
lt (ilt x.2.2.1 v41) fun v42=>
bif v42 then
lt (x.1.getD x.2.2.1.toNat ([0,0,0,0],(0,()))) fun (v43:gB)=>
rq (ile (0:Int) x.2.2.1&&ilt x.2.2.1 (x.1.length:Int))<|
lt (IntKind.i64.wrap (x.2.2.1 - 1)) fun v44=>
lt (x.1.getD v44.toNat ([0,0,0,0],(0,()))) fun (v45:gB)=>
rq (ile (0:Int) v44&&ilt v44 (x.1.length:Int))<|
lt (x.1.getD x.2.2.1.toNat ([0,0,0,0],(0,()))) fun (v46:gB)=>
rq (ile (0:Int) x.2.2.1&&ilt x.2.2.1 (x.1.length:Int))<|
lt (nI.r v43.1 v45.1 v46.2.1) fun w1031=>
rq w1031.1<|
lt (!w1031.2) fun (v1032:Bool)=>
bif v1032 then
kr (4,()) ()
else
lt (IntKind.i64.wrap (x.2.2.1+1)) fun v1033=>
kn (x.1,x.2.1,v1033,()) ()
else
ke 0 (x.1,x.2.1,x.2.2.1,()) ()
noncomputable def fu0 (x:X0) (y:Y0):Nat:=((x.1.length:Int) - x.2.2.1).toNat+1
noncomputable def l0 (x:X0) (y:Y0):Bool×Nat×X0×Y0×U0×V0:=rounds (fun rq kn ke kr x y=>g0 rq kn ke kr x y) (0,()) () (fu0 x y) x y
noncomputable def g {Z:Type} (rq:Bool→Z→Z) (rt:X→Z) (l:(List gB)):Z:=
lt (l.length:Int) fun (v10:Int)=>
lt (ilt v10 1) fun v11=>
bif v11 then
rt 4
else
lt (l.length:Int) fun (v12:Int)=>
lt (ilt 8 v12) fun v13=>
bif v13 then
rt 4
else
lt (l.getD 0 ([0,0,0,0],(0,()))) fun (v14:gB)=>
rq (ilt (0:Int) (l.length:Int))<|
lt (qE.r v14.1) fun w21=>
rq w21.1<|
lt (!w21.2.2) fun (v22:Bool)=>
bif v22 then
rt 4
else
lt (nT.r w21.2.1) fun w35=>
rq w35.1<|
lt (!w35.2) fun (v36:Bool)=>
bif v36 then
rt 4
else
lt (l.getD 0 ([0,0,0,0],(0,()))) fun (v37:gB)=>
rq (ilt (0:Int) (l.length:Int))<|
lt (v37.2.1 != 0) fun (v38:Bool)=>
bif v38 then
rt 4
else
lt (fF.l0 (l,0,1,()) ()) fun w1034=>
rq w1034.1<|
bif Nat.beq w1034.2.1 0 then
rt w1034.2.2.2.2.1.1
else
rt 0
noncomputable def r (l:(List gB)):Bool×X:=g chk (fun x=>(true,x)) l
noncomputable def D:aP:=Dof (P:=Tryz.prog) [qE.ent,nT.ent,nI.ent]
noncomputable def tab:List (Nat×LE Res):= [(8,.typed (fH 60 sh0 bx0 aW aM aN (bf [0,1] (rounds (fun rq kn ke kr x y=>g0 rq kn ke kr x y) (0,()) ()) fu0)))]
set_option maxRecDepth 100000 in
theorem run (l:(List gB)):aQ E0 [true] D (aJ E0 D tab 9) Tryz.f27 (codeOf Tryz.f27) [.val ⟨.sl iW,l⟩] []=g (fun c z=>req c z) (fun x=>some (res x)) l:=by kernel_rfl
theorem rel (l:(List gB)):J (fun w z=>z=some (res w)) (g chk (fun x=>(true,x)) l) (g (fun c z=>req c z) (fun x=>some (res x)) l):=by
 unfold g
 with_reducible repeat (first|(apply J.lt; intro _)|apply J.rq|apply J.bif|exact J.rt rfl)
set_option maxRecDepth 100000 in
theorem bG (x:ShX sh0) (y:BxX bx0) (kn:ShX sh0→BxX bx0→Option Res) (ke:Nat→ShX sh0→BxX bx0→Option Res) (kr:ShX aM→BxX aN→Option Res):d9 E0 D (aJ E0 D tab 8) (aD (codeOf Tryz.f27) 0) (inj 60 sh0 bx0 x y) (dN sh0 bx0 aW aM aN bC kn ke kr)=g0 (fun c z=>req c z) kn ke kr x y:=by kernel_rfl
theorem cB:Nonempty (Told E0 D tab Tryz.f27.ntmps (aD (codeOf Tryz.f27) 0) 60 sh0 bx0 aW aM aN (bf [0,1] (rounds (fun rq kn ke kr x y=>g0 rq kn ke kr x y) (0,()) ()) fu0)):=
 dh (sh:=sh0) (bx:=bx0) (ord:=aW) (shR:=aM) (bxR:=aN) bC 8 (by kernel_rfl) (by kernel_rfl) (by kernel_rfl) [0,1] fu0 (0,()) () (fun rq kn ke kr x y=>g0 rq kn ke kr x y) (fun rq kn ke kr x y=>g0 rq kn ke kr x y) (bG) (by
  intro φ kn1 kn2 ke1 ke2 kr1 kr2 h1 h2 h3 x y
  simp only [g0]
  with_reducible repeat (first|(apply J.lt; intro _)|apply J.rq|apply J.bif|exact h1 _ _|exact h2 _ (by decide) _ _|exact h3 (by decide) _ _))
theorem cK:fQ E0 D tab Tryz.f27.ntmps (codeOf Tryz.f27):=bY (bs:= [aD (codeOf Tryz.f27) 0]) (by kernel_rfl) (aK (cZ (by kernel_rfl) (cB)) bn)
theorem ok:dD Tryz.f27=true:=by kernel_rfl
abbrev aS:List AS:= [.one (.val (.sl iW))]
abbrev bS:List Ty:= []
noncomputable def F (x:ASs aS) (y:Bs bS):Brn Res:=brn (r x.1)
theorem good (x:ASs aS) (y:Bs bS) (h:(F x y).res.1=true):Good Tryz.prog 27 (ASs.mk aS x) (Bs.mk bS y) (F x y).res.2:=
 aF hE0 (aA _) Tryz.func27 ok cK aj (run x.1) (rel x.1) h
noncomputable def ent:Ent Tryz.prog:=⟨27,shF aS bS F,aB good⟩
end fF
namespace kM
abbrev X:Type:=Bool
noncomputable def res (x:Bool):Res:=⟨[.val ⟨.bool,x⟩],[],[]⟩
noncomputable def brn (w:Bool×X):Brn Res:= .one w.1 (res w.2)
theorem aj (w:Bool×X):(brn w).res=(w.1,res w.2):=rfl
noncomputable def g {Z:Type} (rq:Bool→Z→Z) (rt:X→Z) (rx:(Option aG)) (a:(List Int)):Z:=
lt (dW.r rx) fun w1050=>
rq w1050.1<|
bif w1050.2 then
lt (rx.getD eu) fun (v1051:aG)=>
rq rx.isSome<|
lt (jm.r a v1051.1) fun w1052=>
rq w1052.1<|
lt (ilt w1052.2 0) fun v1053=>
rt v1053
else
rt false
noncomputable def r (rx:(Option aG)) (a:(List Int)):Bool×X:=g chk (fun x=>(true,x)) rx a
noncomputable def D:aP:=Dof (P:=Tryz.prog) [dW.ent,jm.ent]
noncomputable def tab:List (Nat×LE Res):= []
set_option maxRecDepth 100000 in
theorem run (rx:(Option aG)) (a:(List Int)):aQ E0 [true] D (aJ E0 D tab 9) Tryz.f30 (codeOf Tryz.f30) [.val ⟨.ref bW,rx⟩,.val ⟨.arr 4 (.int .u64),a⟩] []=g (fun c z=>req c z) (fun x=>some (res x)) rx a:=by kernel_rfl
theorem rel (rx:(Option aG)) (a:(List Int)):J (fun w z=>z=some (res w)) (g chk (fun x=>(true,x)) rx a) (g (fun c z=>req c z) (fun x=>some (res x)) rx a):=by
 unfold g
 with_reducible repeat (first|(apply J.lt; intro _)|apply J.rq|apply J.bif|exact J.rt rfl)
theorem ok:dD Tryz.f30=true:=by kernel_rfl
abbrev aS:List AS:= [.one (.val (.ref bW)),.one (.val (.arr 4 (.int .u64)))]
abbrev bS:List Ty:= []
noncomputable def F (x:ASs aS) (y:Bs bS):Brn Res:=brn (r x.1 x.2.1)
theorem good (x:ASs aS) (y:Bs bS) (h:(F x y).res.1=true):Good Tryz.prog 30 (ASs.mk aS x) (Bs.mk bS y) (F x y).res.2:=
 aF hE0 (aA _) Tryz.func30 ok aO aj (run x.1 x.2.1) (rel x.1 x.2.1) h
noncomputable def ent:Ent Tryz.prog:=⟨30,shF aS bS F,aB good⟩
end kM
namespace iZ
abbrev X:Type:=Nat×((Option ai)×Int)×(Int×ai)
noncomputable def pu (x:(Option ai)×Int):Res:=⟨[.val ⟨.ref au,x.1⟩,.val ⟨.int .i64,x.2⟩],[],[]⟩
noncomputable def pq (x:Int×ai):Res:=⟨[.pb 1000000 au [],.val ⟨.int .i64,x.1⟩],[],[⟨au,x.2⟩]⟩
noncomputable def res (x:X):Res:=bif Nat.beq x.1 0 then pu x.2.1 else (pq x.2.2)
noncomputable def brn (w:Bool×X):Brn Res:= .ite (Nat.beq w.2.1 0) (.one w.1 (pu w.2.2.1)) (.one w.1 (pq w.2.2.2))
theorem aj (w:Bool×X):(brn w).res=(w.1,res w.2):=by
 cases h0:Nat.beq w.2.1 0 with
 |true=>simp only [brn,res,Brn.res,h0,cond_true,cond_false]
 |false=>
  simp only [brn,res,Brn.res,h0,cond_true,cond_false]
noncomputable def g {Z:Type} (rq:Bool→Z→Z) (rt:X→Z) (p:iV):Z:=
lt (p.1.length:Int) fun (v8:Int)=>
lt (ilt v8 2) fun v9=>
bif v9 then
rt (0,(none,4),(0,((none,(none,())),([0,0,0,0],()))))
else
lt (fF.r p.1) fun w1035=>
rq w1035.1<|
lt (w1035.2 != 0) fun (v1036:Bool)=>
bif v1036 then
rt (0,(none,4),(0,((none,(none,())),([0,0,0,0],()))))
else
lt (IntKind.i64.wrap (v8 - 1)) fun v1037=>
lt (p.1.getD v1037.toNat ([0,0,0,0],(0,()))) fun (v1038:gB)=>
rq (ile (0:Int) v1037&&ilt v1037 (p.1.length:Int))<|
lt (jR.r v1038.1) fun w1039=>
rq w1039.1<|
lt (w1039.2.2 != 0) fun (v1040:Bool)=>
bif v1040 then
rt (0,(none,4),(0,((none,(none,())),([0,0,0,0],()))))
else
lt (IntKind.i64.wrap (v8 - 2)) fun v1041=>
lt (p.1.getD v1041.toNat ([0,0,0,0],(0,()))) fun (v1042:gB)=>
rq (ile (0:Int) v1041&&ilt v1041 (p.1.length:Int))<|
lt (jR.r v1042.1) fun w1043=>
rq w1043.1<|
lt (w1043.2.2 != 0) fun (v1044:Bool)=>
bif v1044 then
rt (0,(none,4),(0,((none,(none,())),([0,0,0,0],()))))
else
lt (qD.r v1042.1) fun w1045=>
rq w1045.1<|
lt (ilt w1045.2 10) fun v1046=>
bif v1046 then
rt (0,(none,4),(0,((none,(none,())),([0,0,0,0],()))))
else
lt (ieq (p.2.1.getD 0 0) 0&&(ieq (p.2.1.getD 1 0) 0&&(ieq (p.2.1.getD 2 0) 0&&(ieq (p.2.1.getD 3 0) 0&&true)))) fun v1047=>
bif v1047 then
rt (0,(none,4),(0,((none,(none,())),([0,0,0,0],()))))
else
lt (eO.r 1) fun w1048=>
rq w1048.1<|
lt (ieq (p.2.1.getD 0 0) (w1048.2.getD 0 0)&&(ieq (p.2.1.getD 1 0) (w1048.2.getD 1 0)&&(ieq (p.2.1.getD 2 0) (w1048.2.getD 2 0)&&(ieq (p.2.1.getD 3 0) (w1048.2.getD 3 0)&&true)))) fun v1049=>
bif v1049 then
rt (0,(none,4),(0,((none,(none,())),([0,0,0,0],()))))
else
lt (kM.r w1039.2.1 p.2.1) fun w1054=>
rq w1054.1<|
lt (!w1054.2) fun (v1055:Bool)=>
bif v1055 then
rt (0,(none,4),(0,((none,(none,())),([0,0,0,0],()))))
else
lt (fV.r w1039.2.1 p.2.1 v1042.1) fun w1056=>
rq w1056.1<|
lt (eO.r 1) fun w1057=>
rq w1057.1<|
lt (!(ieq (w1056.2.getD 0 0) (w1057.2.getD 0 0)&&(ieq (w1056.2.getD 1 0) (w1057.2.getD 1 0)&&(ieq (w1056.2.getD 2 0) (w1057.2.getD 2 0)&&(ieq (w1056.2.getD 3 0) (w1057.2.getD 3 0)&&true))))) fun (v1058:Bool)=>
bif v1058 then
rt (0,(none,4),(0,((none,(none,())),([0,0,0,0],()))))
else
rt (1,(none,0),(0,((w1039.2.1,(w1043.2.1,())),(p.2.1,()))))
noncomputable def r (p:iV):Bool×X:=g chk (fun x=>(true,x)) p
noncomputable def D:aP:=Dof (P:=Tryz.prog) [fF.ent,jR.ent,qD.ent,eO.ent,kM.ent,fV.ent]
noncomputable def tab:List (Nat×LE Res):= []
set_option maxRecDepth 100000 in
theorem run (p:iV):aQ E0 [false,true] D (aJ E0 D tab 9) Tryz.f11 (codeOf Tryz.f11) [.val ⟨kz,p⟩] []=g (fun c z=>req c z) (fun x=>some (res x)) p:=by kernel_rfl
theorem rel (p:iV):J (fun w z=>z=some (res w)) (g chk (fun x=>(true,x)) p) (g (fun c z=>req c z) (fun x=>some (res x)) p):=by
 unfold g
 with_reducible repeat (first|(apply J.lt; intro _)|apply J.rq|apply J.bif|exact J.rt rfl)
theorem ok:dD Tryz.f11=true:=by kernel_rfl
abbrev aS:List AS:= [.one (.val kz)]
abbrev bS:List Ty:= []
noncomputable def F (x:ASs aS) (y:Bs bS):Brn Res:=brn (r x.1)
theorem good (x:ASs aS) (y:Bs bS) (h:(F x y).res.1=true):Good Tryz.prog 11 (ASs.mk aS x) (Bs.mk bS y) (F x y).res.2:=
 aF hE0 (aA _) Tryz.func11 ok aO aj (run x.1) (rel x.1) h
noncomputable def ent:Ent Tryz.prog:=⟨11,shF aS bS F,aB good⟩
end iZ
namespace iY
abbrev X:Type:=(List Int)
noncomputable def res (x:(List Int)):Res:=⟨[.val ⟨.arr 4 (.int .u64),x⟩],[],[]⟩
noncomputable def brn (w:Bool×X):Brn Res:= .one w.1 (res w.2)
theorem aj (w:Bool×X):(brn w).res=(w.1,res w.2):=rfl
noncomputable def g {Z:Type} (rq:Bool→Z→Z) (rt:X→Z) (p:iV):Z:=
lt (p.1.length:Int) fun (v1060:Int)=>
lt (ilt v1060 2) fun v1061=>
bif v1061 then
rt [0,0,0,0]
else
lt (p.1.length:Int) fun (v1062:Int)=>
lt (IntKind.i64.wrap (v1062 - 2)) fun v1063=>
lt (p.1.getD v1063.toNat ([0,0,0,0],(0,()))) fun (v1064:gB)=>
rq (ile (0:Int) v1063&&ilt v1063 (p.1.length:Int))<|
rt v1064.1
noncomputable def r (p:iV):Bool×X:=g chk (fun x=>(true,x)) p
noncomputable def D:aP:=Dof (P:=Tryz.prog) []
noncomputable def tab:List (Nat×LE Res):= []
set_option maxRecDepth 100000 in
theorem run (p:iV):aQ E0 [true] D (aJ E0 D tab 9) Tryz.f20 (codeOf Tryz.f20) [.val ⟨kz,p⟩] []=g (fun c z=>req c z) (fun x=>some (res x)) p:=by kernel_rfl
theorem rel (p:iV):J (fun w z=>z=some (res w)) (g chk (fun x=>(true,x)) p) (g (fun c z=>req c z) (fun x=>some (res x)) p):=by
 unfold g
 with_reducible repeat (first|(apply J.lt; intro _)|apply J.rq|apply J.bif|exact J.rt rfl)
theorem ok:dD Tryz.f20=true:=by kernel_rfl
abbrev aS:List AS:= [.one (.val kz)]
abbrev bS:List Ty:= []
noncomputable def F (x:ASs aS) (y:Bs bS):Brn Res:=brn (r x.1)
theorem good (x:ASs aS) (y:Bs bS) (h:(F x y).res.1=true):Good Tryz.prog 20 (ASs.mk aS x) (Bs.mk bS y) (F x y).res.2:=
 aF hE0 (aA _) Tryz.func20 ok aO aj (run x.1) (rel x.1) h
noncomputable def ent:Ent Tryz.prog:=⟨20,shF aS bS F,aB good⟩
end iY
namespace dS
abbrev X:Type:=(List Bool)
noncomputable def res (x:(List Bool)):Res:=⟨[.val ⟨.arr 256 .bool,x⟩],[],[]⟩
noncomputable def brn (w:Bool×X):Brn Res:= .one w.1 (res w.2)
theorem aj (w:Bool×X):(brn w).res=(w.1,res w.2):=rfl
abbrev sh0:List (Nat×Sh):= [(1,.pb 500000 (.arr 4 (.int .u64)) []),(2,.pb 500001 (.arr 256 .bool) []),(3,.pb 500002 (.arr 256 .bool) []),(4,.p (.int .i64))]
abbrev bx0:List (Nat×Ty):= [(500000,.arr 4 (.int .u64)),(500001,.arr 256 .bool),(500002,.arr 256 .bool)]
abbrev aW:List (Nat×Ty):= [(500000,.arr 4 (.int .u64)),(500001,.arr 256 .bool),(500002,.arr 256 .bool)]
abbrev aM:List (Nat×Sh):= []
abbrev aN:List (Nat×Ty):= []
abbrev bC:List (Nat×Ty):= []
abbrev X0:Type:=Unit×Unit×Unit×Int×Unit
abbrev Y0:Type:=(List Int)×(List Bool)×(List Bool)×Unit
abbrev U0:Type:=Unit
abbrev V0:Type:=Unit
noncomputable def g0 {Z:Type} (rq:Bool→Z→Z) (kn:X0→Y0→Z) (ke:Nat→X0→Y0→Z) (kr:U0→V0→Z) (x:X0) (y:Y0):Z:=
lt (ilt x.2.2.2.1 256) fun v1114=>
bif v1114 then
lt (IntKind.i64.wrap (x.2.2.2.1.tdiv 64)) fun v1115=>
rq (ile (0:Int) v1115&&ilt v1115 4)<|
lt (y.1.getD v1115.toNat 0) fun (v1116:Int)=>
lt (x.2.2.2.1.tmod 64) fun (v1117:Int)=>
lt (v1116.fdiv (2^(min v1117.toNat 64))) fun (v1118:Int)=>
rq (!ilt v1117 0)<|
lt (eB .u64 (· &&& ·) v1118 (1:Int)) fun v1119=>
lt (v1119== 1) fun (v1120:Bool)=>
rq (ile (0:Int) x.2.2.2.1&&ilt x.2.2.2.1 256)<|
lt (y.2.2.1.set x.2.2.2.1.toNat v1120) fun (v1121:(List Bool))=>
lt (IntKind.i64.wrap (x.2.2.2.1+1)) fun v1122=>
kn ((),(),(),v1122,()) (y.1,y.2.1,v1121,())
else
ke 0 ((),(),(),x.2.2.2.1,()) (y.1,y.2.1,y.2.2.1,())
noncomputable def fu0 (x:X0) (y:Y0):Nat:=((256:Int) - x.2.2.2.1).toNat+1
noncomputable def l0 (x:X0) (y:Y0):Bool×Nat×X0×Y0×U0×V0:=rounds (fun rq kn ke kr x y=>g0 rq kn ke kr x y) () () (fu0 x y) x y
noncomputable def g {Z:Type} (rq:Bool→Z→Z) (rt:X→Z) (a:(List Int)):Z:=
lt (List.replicate 256 false) fun (v1066:(List Bool))=>
lt (List.replicate 256 false) fun (v1067:(List Bool))=>
lt (List.replicate 256 false) fun (v1068:(List Bool))=>
lt (dS.l0 ((),(),(),0,()) (a,v1066,v1067,())) fun w1123=>
rq w1123.1<|
rt w1123.2.2.2.1.2.2.1
noncomputable def r (a:(List Int)):Bool×X:=g chk (fun x=>(true,x)) a
noncomputable def D:aP:=Dof (P:=Tryz.prog) []
noncomputable def tab:List (Nat×LE Res):= [(4,.typed (fH 22 sh0 bx0 aW aM aN (bf [1] (rounds (fun rq kn ke kr x y=>g0 rq kn ke kr x y) () ()) fu0)))]
set_option maxRecDepth 100000 in
theorem run (a:(List Int)):aQ E0 [true] D (aJ E0 D tab 9) Tryz.f36 (codeOf Tryz.f36) [.val ⟨.arr 4 (.int .u64),a⟩] []=g (fun c z=>req c z) (fun x=>some (res x)) a:=by kernel_rfl
theorem rel (a:(List Int)):J (fun w z=>z=some (res w)) (g chk (fun x=>(true,x)) a) (g (fun c z=>req c z) (fun x=>some (res x)) a):=by
 unfold g
 with_reducible repeat (first|(apply J.lt; intro _)|apply J.rq|apply J.bif|exact J.rt rfl)
set_option maxRecDepth 100000 in
theorem bG (x:ShX sh0) (y:BxX bx0) (kn:ShX sh0→BxX bx0→Option Res) (ke:Nat→ShX sh0→BxX bx0→Option Res) (kr:ShX aM→BxX aN→Option Res):d9 E0 D (aJ E0 D tab 8) (aD (codeOf Tryz.f36) 0) (inj 22 sh0 bx0 x y) (dN sh0 bx0 aW aM aN bC kn ke kr)=g0 (fun c z=>req c z) kn ke kr x y:=by kernel_rfl
theorem cB:Nonempty (Told E0 D tab Tryz.f36.ntmps (aD (codeOf Tryz.f36) 0) 22 sh0 bx0 aW aM aN (bf [1] (rounds (fun rq kn ke kr x y=>g0 rq kn ke kr x y) () ()) fu0)):=
 dh (sh:=sh0) (bx:=bx0) (ord:=aW) (shR:=aM) (bxR:=aN) bC 8 (by kernel_rfl) (by kernel_rfl) (by kernel_rfl) [1] fu0 () () (fun rq kn ke kr x y=>g0 rq kn ke kr x y) (fun rq kn ke kr x y=>g0 rq kn ke kr x y) (bG) (by
  intro φ kn1 kn2 ke1 ke2 kr1 kr2 h1 h2 h3 x y
  simp only [g0]
  with_reducible repeat (first|(apply J.lt; intro _)|apply J.rq|apply J.bif|exact h1 _ _|exact h2 _ (by decide) _ _|exact h3 (by decide) _ _))
theorem cK:fQ E0 D tab Tryz.f36.ntmps (codeOf Tryz.f36):=bY (bs:= [aD (codeOf Tryz.f36) 0]) (by kernel_rfl) (aK (cZ (by kernel_rfl) (cB)) bn)
theorem ok:dD Tryz.f36=true:=by kernel_rfl
abbrev aS:List AS:= [.one (.val (.arr 4 (.int .u64)))]
abbrev bS:List Ty:= []
noncomputable def F (x:ASs aS) (y:Bs bS):Brn Res:=brn (r x.1)
theorem good (x:ASs aS) (y:Bs bS) (h:(F x y).res.1=true):Good Tryz.prog 36 (ASs.mk aS x) (Bs.mk bS y) (F x y).res.2:=
 aF hE0 (aA _) Tryz.func36 ok cK aj (run x.1) (rel x.1) h
noncomputable def ent:Ent Tryz.prog:=⟨36,shF aS bS F,aB good⟩
end dS
namespace bO
abbrev X:Type:=Int
noncomputable def res (x:Int):Res:=⟨[.val ⟨.int .i64,x⟩],[],[]⟩
noncomputable def brn (w:Bool×X):Brn Res:= .one w.1 (res w.2)
theorem aj (w:Bool×X):(brn w).res=(w.1,res w.2):=rfl
abbrev sh0:List (Nat×Sh):= [(2,.p (.int .i64)),(3,.pb 500000 (.arr 256 .bool) []),(4,.p (.int .i64))]
abbrev bx0:List (Nat×Ty):= [(500000,.arr 256 .bool)]
abbrev aW:List (Nat×Ty):= [(500000,.arr 256 .bool)]
abbrev aM:List (Nat×Sh):= [(2,.p (.int .i64))]
abbrev aN:List (Nat×Ty):= []
abbrev bC:List (Nat×Ty):= []
abbrev X0:Type:=Int×Unit×Int×Unit
abbrev Y0:Type:=(List Bool)×Unit
abbrev U0:Type:=Int×Unit
abbrev V0:Type:=Unit
noncomputable def g0 {Z:Type} (rq:Bool→Z→Z) (kn:X0→Y0→Z) (ke:Nat→X0→Y0→Z) (kr:U0→V0→Z) (x:X0) (y:Y0):Z:=
lt (ile 0 x.2.2.1) fun v1135=>
bif v1135 then
rq (ile (0:Int) x.2.2.1&&ilt x.2.2.1 256)<|
lt (y.1.getD x.2.2.1.toNat false) fun (v1136:Bool)=>
bif v1136 then
lt (IntKind.i64.wrap (x.2.2.1+1)) fun v1137=>
kr (v1137,()) ()
else
lt (IntKind.i64.wrap (x.2.2.1 - 1)) fun v1138=>
kn (x.1,(),v1138,()) (y.1,())
else
ke 0 (x.1,(),x.2.2.1,()) (y.1,())
noncomputable def fu0 (x:X0) (y:Y0):Nat:=(x.2.2.1 - (0:Int)+1).toNat+1
noncomputable def l0 (x:X0) (y:Y0):Bool×Nat×X0×Y0×U0×V0:=rounds (fun rq kn ke kr x y=>g0 rq kn ke kr x y) (0,()) () (fu0 x y) x y
noncomputable def g {Z:Type} (rq:Bool→Z→Z) (rt:X→Z) (a:(List Int)):Z:=
lt (dS.r a) fun w1124=>
rq w1124.1<|
lt (List.replicate 256 false) fun (v1125:(List Bool))=>
lt (bO.l0 (0,(),255,()) (w1124.2,())) fun w1139=>
rq w1139.1<|
bif Nat.beq w1139.2.1 0 then
rt w1139.2.2.2.2.1.1
else
rt 0
noncomputable def r (a:(List Int)):Bool×X:=g chk (fun x=>(true,x)) a
noncomputable def D:aP:=Dof (P:=Tryz.prog) [dS.ent]
noncomputable def tab:List (Nat×LE Res):= [(4,.typed (fH 16 sh0 bx0 aW aM aN (bf [0,1] (rounds (fun rq kn ke kr x y=>g0 rq kn ke kr x y) (0,()) ()) fu0)))]
set_option maxRecDepth 100000 in
theorem run (a:(List Int)):aQ E0 [true] D (aJ E0 D tab 9) Tryz.f35 (codeOf Tryz.f35) [.val ⟨.arr 4 (.int .u64),a⟩] []=g (fun c z=>req c z) (fun x=>some (res x)) a:=by kernel_rfl
theorem rel (a:(List Int)):J (fun w z=>z=some (res w)) (g chk (fun x=>(true,x)) a) (g (fun c z=>req c z) (fun x=>some (res x)) a):=by
 unfold g
 with_reducible repeat (first|(apply J.lt; intro _)|apply J.rq|apply J.bif|exact J.rt rfl)
set_option maxRecDepth 100000 in
theorem bG (x:ShX sh0) (y:BxX bx0) (kn:ShX sh0→BxX bx0→Option Res) (ke:Nat→ShX sh0→BxX bx0→Option Res) (kr:ShX aM→BxX aN→Option Res):d9 E0 D (aJ E0 D tab 8) (aD (codeOf Tryz.f35) 0) (inj 16 sh0 bx0 x y) (dN sh0 bx0 aW aM aN bC kn ke kr)=g0 (fun c z=>req c z) kn ke kr x y:=by kernel_rfl
theorem cB:Nonempty (Told E0 D tab Tryz.f35.ntmps (aD (codeOf Tryz.f35) 0) 16 sh0 bx0 aW aM aN (bf [0,1] (rounds (fun rq kn ke kr x y=>g0 rq kn ke kr x y) (0,()) ()) fu0)):=
 dh (sh:=sh0) (bx:=bx0) (ord:=aW) (shR:=aM) (bxR:=aN) bC 8 (by kernel_rfl) (by kernel_rfl) (by kernel_rfl) [0,1] fu0 (0,()) () (fun rq kn ke kr x y=>g0 rq kn ke kr x y) (fun rq kn ke kr x y=>g0 rq kn ke kr x y) (bG) (by
  intro φ kn1 kn2 ke1 ke2 kr1 kr2 h1 h2 h3 x y
  simp only [g0]
  with_reducible repeat (first|(apply J.lt; intro _)|apply J.rq|apply J.bif|exact h1 _ _|exact h2 _ (by decide) _ _|exact h3 (by decide) _ _))
theorem cK:fQ E0 D tab Tryz.f35.ntmps (codeOf Tryz.f35):=bY (bs:= [aD (codeOf Tryz.f35) 0]) (by kernel_rfl) (aK (cZ (by kernel_rfl) (cB)) bn)
theorem ok:dD Tryz.f35=true:=by kernel_rfl
abbrev aS:List AS:= [.one (.val (.arr 4 (.int .u64)))]
abbrev bS:List Ty:= []
noncomputable def F (x:ASs aS) (y:Bs bS):Brn Res:=brn (r x.1)
theorem good (x:ASs aS) (y:Bs bS) (h:(F x y).res.1=true):Good Tryz.prog 35 (ASs.mk aS x) (Bs.mk bS y) (F x y).res.2:=
 aF hE0 (aA _) Tryz.func35 ok cK aj (run x.1) (rel x.1) h
noncomputable def ent:Ent Tryz.prog:=⟨35,shF aS bS F,aB good⟩
end bO
end Go.Own
