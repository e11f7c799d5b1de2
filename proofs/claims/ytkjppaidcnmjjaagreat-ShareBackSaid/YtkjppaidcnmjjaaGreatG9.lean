/- What functions compute, printed by wip/gen/gen2.py. -/
import Derived.Test.YtkjppaidcnmjjaaGreatG8
set_option linter.unusedVariables false
set_option linter.unusedSimpArgs false
namespace Go.Own
open Go.Proofs Go.Proofs.YtkjppaidcnmjjaaGreat
namespace dH
abbrev X:Type:=(List Int)×(List Int)
noncomputable def res (x:(List Int)×(List Int)):Res:=⟨[.val ⟨.arr 4 (.int .u64),x.1⟩,.val ⟨.arr 4 (.int .u64),x.2⟩],[],[]⟩
noncomputable def brn (w:Bool×X):Brn Res:= .one w.1 (res w.2)
theorem aj (w:Bool×X):(brn w).res=(w.1,res w.2):=rfl
abbrev sh0:List (Nat×Sh):= [(1,.pb 500000 (.arr 32 (.int .i64)) []),(2,.pb 500001 (.arr 4 (.int .u64)) []),(3,.pb 500002 (.arr 4 (.int .u64)) []),(4,.pb 500003 (.arr 4 (.int .u64)) []),(5,.pb 500004 (.arr 4 (.int .u64)) []),(6,.p (.int .i64))]
abbrev bx0:List (Nat×Ty):= [(500000,.arr 32 (.int .i64)),(500001,.arr 4 (.int .u64)),(500002,.arr 4 (.int .u64)),(500003,.arr 4 (.int .u64)),(500004,.arr 4 (.int .u64))]
abbrev aW:List (Nat×Ty):= [(500000,.arr 32 (.int .i64)),(500001,.arr 4 (.int .u64)),(500002,.arr 4 (.int .u64)),(500003,.arr 4 (.int .u64)),(500004,.arr 4 (.int .u64))]
abbrev aM:List (Nat×Sh):= []
abbrev aN:List (Nat×Ty):= []
abbrev bC:List (Nat×Ty):= []
abbrev X0:Type:=Unit×Unit×Unit×Unit×Unit×Int×Unit
abbrev Y0:Type:=(List Int)×(List Int)×(List Int)×(List Int)×(List Int)×Unit
abbrev U0:Type:=Unit
abbrev V0:Type:=Unit
noncomputable def g0 {Z:Type} (rq:Bool→Z→Z) (kn:X0→Y0→Z) (ke:Nat→X0→Y0→Z) (kr:U0→V0→Z) (x:X0) (y:Y0):Z:=
lt (ilt x.2.2.2.2.2.1 16) fun v2148=>
bif v2148 then
lt (IntKind.i64.wrap (x.2.2.2.2.2.1.tdiv 4)) fun v2149=>
lt (IntKind.i64.wrap (x.2.2.2.2.2.1.tdiv 4)) fun v2150=>
rq (ile (0:Int) v2150&&ilt v2150 4)<|
lt (y.2.2.2.1.getD v2150.toNat 0) fun (v2151:Int)=>
rq (ile (0:Int) x.2.2.2.2.2.1&&ilt x.2.2.2.2.2.1 32)<|
lt (y.1.getD x.2.2.2.2.2.1.toNat 0) fun (v2152:Int)=>
lt (IntKind.u64.wrap (v2152)) fun v2153=>
lt (x.2.2.2.2.2.1.tmod 4) fun (v2154:Int)=>
lt (IntKind.i64.wrap ((16:Int)*v2154)) fun v2155=>
lt (IntKind.u64.wrap (v2153*2^(min v2155.toNat 64))) fun v2156=>
rq (!ilt v2155 0)<|
lt (eB .u64 (· ||| ·) v2151 v2156) fun v2157=>
rq (ile (0:Int) v2149&&ilt v2149 4)<|
lt (y.2.2.2.1.set v2149.toNat v2157) fun (v2158:(List Int))=>
lt (IntKind.i64.wrap (x.2.2.2.2.2.1.tdiv 4)) fun v2159=>
lt (IntKind.i64.wrap (x.2.2.2.2.2.1.tdiv 4)) fun v2160=>
rq (ile (0:Int) v2160&&ilt v2160 4)<|
lt (y.2.2.2.2.1.getD v2160.toNat 0) fun (v2161:Int)=>
lt (IntKind.i64.wrap ((16:Int)+x.2.2.2.2.2.1)) fun v2162=>
rq (ile (0:Int) v2162&&ilt v2162 32)<|
lt (y.1.getD v2162.toNat 0) fun (v2163:Int)=>
lt (IntKind.u64.wrap (v2163)) fun v2164=>
lt (x.2.2.2.2.2.1.tmod 4) fun (v2165:Int)=>
lt (IntKind.i64.wrap ((16:Int)*v2165)) fun v2166=>
lt (IntKind.u64.wrap (v2164*2^(min v2166.toNat 64))) fun v2167=>
rq (!ilt v2166 0)<|
lt (eB .u64 (· ||| ·) v2161 v2167) fun v2168=>
rq (ile (0:Int) v2159&&ilt v2159 4)<|
lt (y.2.2.2.2.1.set v2159.toNat v2168) fun (v2169:(List Int))=>
lt (IntKind.i64.wrap (x.2.2.2.2.2.1+1)) fun v2170=>
kn ((),(),(),(),(),v2170,()) (y.1,y.2.1,y.2.2.1,v2158,v2169,())
else
ke 0 ((),(),(),(),(),x.2.2.2.2.2.1,()) (y.1,y.2.1,y.2.2.1,y.2.2.2.1,y.2.2.2.2.1,())
noncomputable def fu0 (x:X0) (y:Y0):Nat:=Sj (((16:Int) - x.2.2.2.2.2.1).toNat+1)
noncomputable def l0 (x:X0) (y:Y0):Bool×Nat×X0×Y0×U0×V0:=rounds (fun rq kn ke kr x y=>g0 rq kn ke kr x y) () () (fu0 x y) x y
noncomputable def g {Z:Type} (rq:Bool→Z→Z) (rt:X→Z) (d:(List Int)):Z:=
lt (dH.l0 ((),(),(),(),(),0,()) (d,[0,0,0,0],[0,0,0,0],[0,0,0,0],[0,0,0,0],())) fun w2171=>
rq w2171.1<|
rt (w2171.2.2.2.1.2.2.2.1,w2171.2.2.2.1.2.2.2.2.1)
noncomputable def r (d:(List Int)):Bool×X:=g chk (fun x=>(true,x)) d
noncomputable def D:aP:=Dof (P:=Tryz.prog) []
noncomputable def tab:List (Nat×LE Res):= [(4,.typed (fH 48 sh0 bx0 aW aM aN (bf [1] (rounds (fun rq kn ke kr x y=>g0 rq kn ke kr x y) () ()) fu0)))]
set_option maxRecDepth 100000 in
theorem run (d:(List Int)):aQ E0 [true,true] D (aJ E0 D tab 9) Tryz.f71 (codeOf Tryz.f71) [.val ⟨.arr 32 (.int .i64),d⟩] []=g (fun c z=>req c z) (fun x=>some (res x)) d:=by kernel_rfl
theorem rel (d:(List Int)):J (fun w z=>z=some (res w)) (g chk (fun x=>(true,x)) d) (g (fun c z=>req c z) (fun x=>some (res x)) d):=by
 unfold g
 with_reducible repeat (first|(apply J.lt; intro _)|apply J.rq|apply J.bif|exact J.rt rfl)
set_option maxRecDepth 100000 in
theorem bG (x:ShX sh0) (y:BxX bx0) (kn:ShX sh0→BxX bx0→Option Res) (ke:Nat→ShX sh0→BxX bx0→Option Res) (kr:ShX aM→BxX aN→Option Res):d9 E0 D (aJ E0 D tab 8) (aD (codeOf Tryz.f71) 0) (inj 48 sh0 bx0 x y) (dN sh0 bx0 aW aM aN bC kn ke kr)=g0 (fun c z=>req c z) kn ke kr x y:=by kernel_rfl
theorem cB:Nonempty (Told E0 D tab Tryz.f71.ntmps (aD (codeOf Tryz.f71) 0) 48 sh0 bx0 aW aM aN (bf [1] (rounds (fun rq kn ke kr x y=>g0 rq kn ke kr x y) () ()) fu0)):=
 dh (sh:=sh0) (bx:=bx0) (ord:=aW) (shR:=aM) (bxR:=aN) bC 8 (by kernel_rfl) (by kernel_rfl) (by kernel_rfl) [1] fu0 () () (fun rq kn ke kr x y=>g0 rq kn ke kr x y) (fun rq kn ke kr x y=>g0 rq kn ke kr x y) (bG) (by
  intro φ kn1 kn2 ke1 ke2 kr1 kr2 h1 h2 h3 x y
  simp only [g0]
  with_reducible repeat (first|(apply J.lt; intro _)|apply J.rq|apply J.bif|exact h1 _ _|exact h2 _ (by decide) _ _|exact h3 (by decide) _ _))
theorem cK:fQ E0 D tab Tryz.f71.ntmps (codeOf Tryz.f71):=bY (bs:= [aD (codeOf Tryz.f71) 0]) (by kernel_rfl) (aK (cZ (by kernel_rfl) (cB)) bn)
theorem ok:dD Tryz.f71=true:=by kernel_rfl
abbrev aS:List AS:= [.one (.val (.arr 32 (.int .i64)))]
abbrev bS:List Ty:= []
noncomputable def F (x:ASs aS) (y:Bs bS):Brn Res:=brn (r x.1)
theorem good (x:ASs aS) (y:Bs bS) (h:(F x y).res.1=true):Good Tryz.prog 71 (ASs.mk aS x) (Bs.mk bS y) (F x y).res.2:=
 aF hE0 (aA _) Tryz.func71 ok cK aj (run x.1) (rel x.1) h
noncomputable def ent:Ent Tryz.prog:=⟨71,shF aS bS F,aB good⟩
end dH
namespace iF
abbrev X:Type:=(List Int)×Int
noncomputable def res (x:(List Int)×Int):Res:=⟨[.val ⟨.arr 4 (.int .u64),x.1⟩,.val ⟨.int .i64,x.2⟩],[],[]⟩
noncomputable def brn (w:Bool×X):Brn Res:= .one w.1 (res w.2)
theorem aj (w:Bool×X):(brn w).res=(w.1,res w.2):=rfl
noncomputable def g {Z:Type} (rq:Bool→Z→Z) (rt:X→Z) (low:(List Int)) (high:(List Int)) (m:(List Int)):Z:=
lt (ieq (m.getD 0 0) 0&&(ieq (m.getD 1 0) 0&&(ieq (m.getD 2 0) 0&&(ieq (m.getD 3 0) 0&&true)))) fun v1634=>
bif v1634 then
rt ([0,0,0,0],1)
else
lt (dQ.r low high) fun w1748=>
rq w1748.1<|
lt (dQ.r m [0,0,0,0]) fun w1749=>
rq w1749.1<|
lt (aY.r w1748.2 w1749.2) fun w2073=>
rq w2073.1<|
lt (List.replicate 32 0) fun (v2074:(List Int))=>
lt (List.replicate 32 0) fun (v2075:(List Int))=>
lt (dH.r w2073.2.2) fun w2172=>
rq w2172.1<|
rt (w2172.2.1,0)
noncomputable def r (low:(List Int)) (high:(List Int)) (m:(List Int)):Bool×X:=g chk (fun x=>(true,x)) low high m
noncomputable def D:aP:=Dof (P:=Tryz.prog) [dQ.ent,aY.ent,dH.ent]
noncomputable def tab:List (Nat×LE Res):= []
set_option maxRecDepth 100000 in
theorem run (low:(List Int)) (high:(List Int)) (m:(List Int)):aQ E0 [true,true] D (aJ E0 D tab 9) Tryz.f43 (codeOf Tryz.f43) [.val ⟨.arr 4 (.int .u64),low⟩,.val ⟨.arr 4 (.int .u64),high⟩,.val ⟨.arr 4 (.int .u64),m⟩] []=g (fun c z=>req c z) (fun x=>some (res x)) low high m:=by kernel_rfl
theorem rel (low:(List Int)) (high:(List Int)) (m:(List Int)):J (fun w z=>z=some (res w)) (g chk (fun x=>(true,x)) low high m) (g (fun c z=>req c z) (fun x=>some (res x)) low high m):=by
 unfold g
 with_reducible repeat (first|(apply J.lt; intro _)|apply J.rq|apply J.bif|exact J.rt rfl)
theorem ok:dD Tryz.f43=true:=by kernel_rfl
abbrev aS:List AS:= [.one (.val (.arr 4 (.int .u64))),.one (.val (.arr 4 (.int .u64))),.one (.val (.arr 4 (.int .u64)))]
abbrev bS:List Ty:= []
noncomputable def F (x:ASs aS) (y:Bs bS):Brn Res:=brn (r x.1 x.2.1 x.2.2.1)
theorem good (x:ASs aS) (y:Bs bS) (h:(F x y).res.1=true):Good Tryz.prog 43 (ASs.mk aS x) (Bs.mk bS y) (F x y).res.2:=
 aF hE0 (aA _) Tryz.func43 ok aO aj (run x.1 x.2.1 x.2.2.1) (rel x.1 x.2.1 x.2.2.1) h
noncomputable def ent:Ent Tryz.prog:=⟨43,shF aS bS F,aB good⟩
end iF
namespace iO
abbrev X:Type:=Int
noncomputable def res (x:Int):Res:=⟨[.val ⟨.int .i64,x⟩],[],[]⟩
noncomputable def brn (w:Bool×X):Brn Res:= .one w.1 (res w.2)
theorem aj (w:Bool×X):(brn w).res=(w.1,res w.2):=rfl
noncomputable def g {Z:Type} (rq:Bool→Z→Z) (rt:X→Z) (a:(List Int)) (qx:Int):Z:=
lt (bB.r qx) fun w1633=>
rq w1633.1<|
lt (iF.r a [0,0,0,0] w1633.2) fun w2173=>
rq w2173.1<|
lt (bX.r w2173.2.1) fun w2174=>
rq w2174.1<|
rt w2174.2.1
noncomputable def r (a:(List Int)) (qx:Int):Bool×X:=g chk (fun x=>(true,x)) a qx
noncomputable def D:aP:=Dof (P:=Tryz.prog) [bB.ent,iF.ent,bX.ent]
noncomputable def tab:List (Nat×LE Res):= []
set_option maxRecDepth 100000 in
theorem run (a:(List Int)) (qx:Int):aQ E0 [true] D (aJ E0 D tab 9) Tryz.f26 (codeOf Tryz.f26) [.val ⟨.arr 4 (.int .u64),a⟩,.val ⟨.int .i64,qx⟩] []=g (fun c z=>req c z) (fun x=>some (res x)) a qx:=by kernel_rfl
theorem rel (a:(List Int)) (qx:Int):J (fun w z=>z=some (res w)) (g chk (fun x=>(true,x)) a qx) (g (fun c z=>req c z) (fun x=>some (res x)) a qx):=by
 unfold g
 with_reducible repeat (first|(apply J.lt; intro _)|apply J.rq|apply J.bif|exact J.rt rfl)
theorem ok:dD Tryz.f26=true:=by kernel_rfl
abbrev aS:List AS:= [.one (.val (.arr 4 (.int .u64))),.one (.val (.int .i64))]
abbrev bS:List Ty:= []
noncomputable def F (x:ASs aS) (y:Bs bS):Brn Res:=brn (r x.1 x.2.1)
theorem good (x:ASs aS) (y:Bs bS) (h:(F x y).res.1=true):Good Tryz.prog 26 (ASs.mk aS x) (Bs.mk bS y) (F x y).res.2:=
 aF hE0 (aA _) Tryz.func26 ok aO aj (run x.1 x.2.1) (rel x.1 x.2.1) h
noncomputable def ent:Ent Tryz.prog:=⟨26,shF aS bS F,aB good⟩
end iO
namespace dU
abbrev X:Type:=(List Int)
noncomputable def res (x:(List Int)):Res:=⟨[.val ⟨.sl (.int .i64),x⟩],[],[]⟩
noncomputable def brn (w:Bool×X):Brn Res:= .one w.1 (res w.2)
theorem aj (w:Bool×X):(brn w).res=(w.1,res w.2):=rfl
abbrev sh0:List (Nat×Sh):= [(0,.p (.sl (.arr 4 (.int .u64)))),(1,.p (.int .i64)),(4,.nil),(5,.va 500000 (.int .i64)),(6,.p (.int .i64))]
abbrev bx0:List (Nat×Ty):= [(500000,.dyn (.int .i64))]
abbrev aW:List (Nat×Ty):= [(500000,.dyn (.int .i64))]
abbrev aM:List (Nat×Sh):= []
abbrev aN:List (Nat×Ty):= []
abbrev bC:List (Nat×Ty):= []
abbrev X0:Type:=(List (List Int))×Int×Unit×Unit×Int×Unit
abbrev Y0:Type:=(Bool×List Int)×Unit
abbrev U0:Type:=Unit
abbrev V0:Type:=Unit
noncomputable def g0 {Z:Type} (rq:Bool→Z→Z) (kn:X0→Y0→Z) (ke:Nat→X0→Y0→Z) (kr:U0→V0→Z) (x:X0) (y:Y0):Z:=
lt (x.1.length:Int) fun (v2177:Int)=>
lt (ilt x.2.2.2.2.1 v2177) fun v2178=>
bif v2178 then
lt (x.1.getD x.2.2.2.2.1.toNat [0,0,0,0]) fun (v2179:(List Int))=>
rq (ile (0:Int) x.2.2.2.2.1&&ilt x.2.2.2.2.1 (x.1.length:Int))<|
lt (iO.r v2179 x.2.1) fun w2180=>
rq w2180.1<|
lt (y.1.1&&false) fun (v2181:Bool)=>
lt (y.1.2++ [w2180.2]) fun (v2182:(List Int))=>
rq (nle ((2*(y.1.2.length+1)+512)*8) 70368744177664)<|
lt (IntKind.i64.wrap (x.2.2.2.2.1+1)) fun v2183=>
kn (x.1,x.2.1,(),(),v2183,()) ((v2181,v2182),())
else
ke 0 (x.1,x.2.1,(),(),x.2.2.2.2.1,()) (y.1,())
noncomputable def fu0 (x:X0) (y:Y0):Nat:=((x.1.length:Int) - x.2.2.2.2.1).toNat+1
noncomputable def l0 (x:X0) (y:Y0):Bool×Nat×X0×Y0×U0×V0:=rounds (fun rq kn ke kr x y=>g0 rq kn ke kr x y) () () (fu0 x y) x y
noncomputable def g {Z:Type} (rq:Bool→Z→Z) (rt:X→Z) (l:(List (List Int))) (qx:Int):Z:=
lt (dU.l0 (l,qx,(),(),0,()) ((true,[]),())) fun w2184=>
rq w2184.1<|
rt w2184.2.2.2.1.1.2
noncomputable def r (l:(List (List Int))) (qx:Int):Bool×X:=g chk (fun x=>(true,x)) l qx
noncomputable def D:aP:=Dof (P:=Tryz.prog) [iO.ent]
noncomputable def tab:List (Nat×LE Res):= [(4,.typed (fH 23 sh0 bx0 aW aM aN (bf [1] (rounds (fun rq kn ke kr x y=>g0 rq kn ke kr x y) () ()) fu0)))]
set_option maxRecDepth 100000 in
theorem run (l:(List (List Int))) (qx:Int):aQ E0 [true] D (aJ E0 D tab 9) Tryz.f10 (codeOf Tryz.f10) [.val ⟨.sl (.arr 4 (.int .u64)),l⟩,.val ⟨.int .i64,qx⟩] []=g (fun c z=>req c z) (fun x=>some (res x)) l qx:=by kernel_rfl
theorem rel (l:(List (List Int))) (qx:Int):J (fun w z=>z=some (res w)) (g chk (fun x=>(true,x)) l qx) (g (fun c z=>req c z) (fun x=>some (res x)) l qx):=by
 unfold g
 with_reducible repeat (first|(apply J.lt; intro _)|apply J.rq|apply J.bif|exact J.rt rfl)
set_option maxRecDepth 100000 in
theorem bG (x:ShX sh0) (y:BxX bx0) (kn:ShX sh0→BxX bx0→Option Res) (ke:Nat→ShX sh0→BxX bx0→Option Res) (kr:ShX aM→BxX aN→Option Res):d9 E0 D (aJ E0 D tab 8) (aD (codeOf Tryz.f10) 0) (inj 23 sh0 bx0 x y) (dN sh0 bx0 aW aM aN bC kn ke kr)=g0 (fun c z=>req c z) kn ke kr x y:=by kernel_rfl
theorem cB:Nonempty (Told E0 D tab Tryz.f10.ntmps (aD (codeOf Tryz.f10) 0) 23 sh0 bx0 aW aM aN (bf [1] (rounds (fun rq kn ke kr x y=>g0 rq kn ke kr x y) () ()) fu0)):=
 dh (sh:=sh0) (bx:=bx0) (ord:=aW) (shR:=aM) (bxR:=aN) bC 8 (by kernel_rfl) (by kernel_rfl) (by kernel_rfl) [1] fu0 () () (fun rq kn ke kr x y=>g0 rq kn ke kr x y) (fun rq kn ke kr x y=>g0 rq kn ke kr x y) (bG) (by
  intro φ kn1 kn2 ke1 ke2 kr1 kr2 h1 h2 h3 x y
  simp only [g0]
  with_reducible repeat (first|(apply J.lt; intro _)|apply J.rq|apply J.bif|exact h1 _ _|exact h2 _ (by decide) _ _|exact h3 (by decide) _ _))
theorem cK:fQ E0 D tab Tryz.f10.ntmps (codeOf Tryz.f10):=bY (bs:= [aD (codeOf Tryz.f10) 0]) (by kernel_rfl) (aK (cZ (by kernel_rfl) (cB)) bn)
theorem ok:dD Tryz.f10=true:=by kernel_rfl
abbrev aS:List AS:= [.one (.val (.sl (.arr 4 (.int .u64)))),.one (.val (.int .i64))]
abbrev bS:List Ty:= []
noncomputable def F (x:ASs aS) (y:Bs bS):Brn Res:=brn (r x.1 x.2.1)
theorem good (x:ASs aS) (y:Bs bS) (h:(F x y).res.1=true):Good Tryz.prog 10 (ASs.mk aS x) (Bs.mk bS y) (F x y).res.2:=
 aF hE0 (aA _) Tryz.func10 ok cK aj (run x.1 x.2.1) (rel x.1 x.2.1) h
noncomputable def ent:Ent Tryz.prog:=⟨10,shF aS bS F,aB good⟩
end dU
namespace gT
abbrev X:Type:=Int
noncomputable def res (x:Int):Res:=⟨[.val ⟨.int .i64,x⟩],[],[]⟩
noncomputable def brn (w:Bool×X):Brn Res:= .one w.1 (res w.2)
theorem aj (w:Bool×X):(brn w).res=(w.1,res w.2):=rfl
noncomputable def g {Z:Type} (rq:Bool→Z→Z) (rt:X→Z) (a:Int) (b:Int) (m:Int):Z:=
lt (a.tmod m) fun (v2193:Int)=>
rq (!ieq m 0)<|
lt (IntKind.u64.wrap (v2193)) fun v2194=>
lt (b.tmod m) fun (v2195:Int)=>
rq (!ieq m 0)<|
lt (IntKind.u64.wrap (v2195)) fun v2196=>
lt (ic.r v2194 v2196) fun w2197=>
rq w2197.1<|
lt (IntKind.u64.wrap (m)) fun v2198=>
lt (fu.r w2197.2.1 w2197.2.2 v2198) fun w2199=>
rq w2199.1<|
lt (IntKind.i64.wrap (w2199.2.2)) fun v2200=>
rt v2200
noncomputable def r (a:Int) (b:Int) (m:Int):Bool×X:=g chk (fun x=>(true,x)) a b m
noncomputable def D:aP:=Dof (P:=Tryz.prog) [ic.ent,fu.ent]
noncomputable def tab:List (Nat×LE Res):= []
set_option maxRecDepth 100000 in
theorem run (a:Int) (b:Int) (m:Int):aQ E0 [true] D (aJ E0 D tab 9) Tryz.f68 (codeOf Tryz.f68) [.val ⟨.int .i64,a⟩,.val ⟨.int .i64,b⟩,.val ⟨.int .i64,m⟩] []=g (fun c z=>req c z) (fun x=>some (res x)) a b m:=by kernel_rfl
theorem rel (a:Int) (b:Int) (m:Int):J (fun w z=>z=some (res w)) (g chk (fun x=>(true,x)) a b m) (g (fun c z=>req c z) (fun x=>some (res x)) a b m):=by
 unfold g
 with_reducible repeat (first|(apply J.lt; intro _)|apply J.rq|apply J.bif|exact J.rt rfl)
theorem ok:dD Tryz.f68=true:=by kernel_rfl
abbrev aS:List AS:= [.one (.val (.int .i64)),.one (.val (.int .i64)),.one (.val (.int .i64))]
abbrev bS:List Ty:= []
noncomputable def F (x:ASs aS) (y:Bs bS):Brn Res:=brn (r x.1 x.2.1 x.2.2.1)
theorem good (x:ASs aS) (y:Bs bS) (h:(F x y).res.1=true):Good Tryz.prog 68 (ASs.mk aS x) (Bs.mk bS y) (F x y).res.2:=
 aF hE0 (aA _) Tryz.func68 ok aO aj (run x.1 x.2.1 x.2.2.1) (rel x.1 x.2.1 x.2.2.1) h
noncomputable def ent:Ent Tryz.prog:=⟨68,shF aS bS F,aB good⟩
end gT
namespace fU
abbrev X:Type:=Int
noncomputable def res (x:Int):Res:=⟨[.val ⟨.int .i64,x⟩],[],[]⟩
noncomputable def brn (w:Bool×X):Brn Res:= .one w.1 (res w.2)
theorem aj (w:Bool×X):(brn w).res=(w.1,res w.2):=rfl
noncomputable def g {Z:Type} (rq:Bool→Z→Z) (rt:X→Z) (a:Int) (b:Int) (qx:Int):Z:=
lt (gT.r a b qx) fun w2201=>
rq w2201.1<|
rt w2201.2
noncomputable def r (a:Int) (b:Int) (qx:Int):Bool×X:=g chk (fun x=>(true,x)) a b qx
noncomputable def D:aP:=Dof (P:=Tryz.prog) [gT.ent]
noncomputable def tab:List (Nat×LE Res):= []
set_option maxRecDepth 100000 in
theorem run (a:Int) (b:Int) (qx:Int):aQ E0 [true] D (aJ E0 D tab 9) Tryz.f42 (codeOf Tryz.f42) [.val ⟨.int .i64,a⟩,.val ⟨.int .i64,b⟩,.val ⟨.int .i64,qx⟩] []=g (fun c z=>req c z) (fun x=>some (res x)) a b qx:=by kernel_rfl
theorem rel (a:Int) (b:Int) (qx:Int):J (fun w z=>z=some (res w)) (g chk (fun x=>(true,x)) a b qx) (g (fun c z=>req c z) (fun x=>some (res x)) a b qx):=by
 unfold g
 with_reducible repeat (first|(apply J.lt; intro _)|apply J.rq|apply J.bif|exact J.rt rfl)
theorem ok:dD Tryz.f42=true:=by kernel_rfl
abbrev aS:List AS:= [.one (.val (.int .i64)),.one (.val (.int .i64)),.one (.val (.int .i64))]
abbrev bS:List Ty:= []
noncomputable def F (x:ASs aS) (y:Bs bS):Brn Res:=brn (r x.1 x.2.1 x.2.2.1)
theorem good (x:ASs aS) (y:Bs bS) (h:(F x y).res.1=true):Good Tryz.prog 42 (ASs.mk aS x) (Bs.mk bS y) (F x y).res.2:=
 aF hE0 (aA _) Tryz.func42 ok aO aj (run x.1 x.2.1 x.2.2.1) (rel x.1 x.2.1 x.2.2.1) h
noncomputable def ent:Ent Tryz.prog:=⟨42,shF aS bS F,aB good⟩
noncomputable def ro:Int→Int→Int→Bool×X:=Classical.choose (⟨r,rfl⟩:∃ q:Int→Int→Int→Bool×X,q=r)
theorem fT:ro=r:=Classical.choose_spec (⟨r,rfl⟩:∃ q:Int→Int→Int→Bool×X,q=r)
noncomputable def FO (x:ASs aS) (y:Bs bS):Brn Res:=brn (ro x.1 x.2.1 x.2.2.1)
theorem kY:FO=F:=by unfold FO F; rw [fT]
noncomputable def oF:Ent Tryz.prog:=⟨42,shF aS bS FO,aB (by rw [kY]; exact good)⟩
end fU
namespace iE
abbrev X:Type:=Int
noncomputable def res (x:Int):Res:=⟨[.val ⟨.int .i64,x⟩],[],[]⟩
noncomputable def brn (w:Bool×X):Brn Res:= .one w.1 (res w.2)
theorem aj (w:Bool×X):(brn w).res=(w.1,res w.2):=rfl
noncomputable def g {Z:Type} (rq:Bool→Z→Z) (rt:X→Z) (a:Int) (b:Int) (qx:Int):Z:=
lt (IntKind.i64.wrap (a+b)) fun v2203=>
lt (v2203.tmod qx) fun (v2204:Int)=>
rq (!ieq qx 0)<|
rt v2204
noncomputable def r (a:Int) (b:Int) (qx:Int):Bool×X:=g chk (fun x=>(true,x)) a b qx
noncomputable def D:aP:=Dof (P:=Tryz.prog) []
noncomputable def tab:List (Nat×LE Res):= []
set_option maxRecDepth 100000 in
theorem run (a:Int) (b:Int) (qx:Int):aQ E0 [true] D (aJ E0 D tab 9) Tryz.f41 (codeOf Tryz.f41) [.val ⟨.int .i64,a⟩,.val ⟨.int .i64,b⟩,.val ⟨.int .i64,qx⟩] []=g (fun c z=>req c z) (fun x=>some (res x)) a b qx:=by kernel_rfl
theorem rel (a:Int) (b:Int) (qx:Int):J (fun w z=>z=some (res w)) (g chk (fun x=>(true,x)) a b qx) (g (fun c z=>req c z) (fun x=>some (res x)) a b qx):=by
 unfold g
 with_reducible repeat (first|(apply J.lt; intro _)|apply J.rq|apply J.bif|exact J.rt rfl)
theorem ok:dD Tryz.f41=true:=by kernel_rfl
abbrev aS:List AS:= [.one (.val (.int .i64)),.one (.val (.int .i64)),.one (.val (.int .i64))]
abbrev bS:List Ty:= []
noncomputable def F (x:ASs aS) (y:Bs bS):Brn Res:=brn (r x.1 x.2.1 x.2.2.1)
theorem good (x:ASs aS) (y:Bs bS) (h:(F x y).res.1=true):Good Tryz.prog 41 (ASs.mk aS x) (Bs.mk bS y) (F x y).res.2:=
 aF hE0 (aA _) Tryz.func41 ok aO aj (run x.1 x.2.1 x.2.2.1) (rel x.1 x.2.1 x.2.2.1) h
noncomputable def ent:Ent Tryz.prog:=⟨41,shF aS bS F,aB good⟩
end iE
namespace dF
abbrev X:Type:=Int
noncomputable def res (x:Int):Res:=⟨[.val ⟨.int .i64,x⟩],[],[]⟩
noncomputable def brn (w:Bool×X):Brn Res:= .one w.1 (res w.2)
theorem aj (w:Bool×X):(brn w).res=(w.1,res w.2):=rfl
abbrev sh0:List (Nat×Sh):= [(0,.p (.sl (.int .i64))),(1,.p (.int .i64)),(2,.p (.int .i64)),(6,.p (.int .i64)),(7,.p (.int .i64)),(8,.p (.int .i64)),(9,.p (.int .i64))]
abbrev bx0:List (Nat×Ty):= []
abbrev aW:List (Nat×Ty):= []
abbrev aM:List (Nat×Sh):= []
abbrev aN:List (Nat×Ty):= []
abbrev bC:List (Nat×Ty):= []
abbrev X0:Type:=(List Int)×Int×Int×Int×Int×Int×Int×Unit
abbrev Y0:Type:=Unit
abbrev U0:Type:=Unit
abbrev V0:Type:=Unit
noncomputable def g0 {Z:Type} (rq:Bool→Z→Z) (kn:X0→Y0→Z) (ke:Nat→X0→Y0→Z) (kr:U0→V0→Z) (x:X0) (y:Y0):Z:=
lt (x.1.length:Int) fun (v2190:Int)=>
lt (ilt x.2.2.2.2.2.2.1 v2190) fun v2191=>
bif v2191 then
lt (x.1.getD x.2.2.2.2.2.2.1.toNat 0) fun (v2192:Int)=>
rq (ile (0:Int) x.2.2.2.2.2.2.1&&ilt x.2.2.2.2.2.2.1 (x.1.length:Int))<|
lt (fU.ro v2192 x.2.2.2.2.2.1 x.2.2.1) fun w2202=>
rq w2202.1<|
lt (iE.r x.2.2.2.2.1 w2202.2 x.2.2.1) fun w2205=>
rq w2205.1<|
lt (fU.ro x.2.2.2.2.2.1 x.2.1 x.2.2.1) fun w2206=>
rq w2206.1<|
lt (IntKind.i64.wrap (x.2.2.2.2.2.2.1+1)) fun v2207=>
kn (x.1,x.2.1,x.2.2.1,x.2.2.2.1,w2205.2,w2206.2,v2207,()) ()
else
ke 0 (x.1,x.2.1,x.2.2.1,x.2.2.2.1,x.2.2.2.2.1,x.2.2.2.2.2.1,x.2.2.2.2.2.2.1,()) ()
noncomputable def fu0 (x:X0) (y:Y0):Nat:=((x.1.length:Int) - x.2.2.2.2.2.2.1).toNat+1
noncomputable def l0 (x:X0) (y:Y0):Bool×Nat×X0×Y0×U0×V0:=rounds (fun rq kn ke kr x y=>g0 rq kn ke kr x y) () () (fu0 x y) x y
noncomputable def g {Z:Type} (rq:Bool→Z→Z) (rt:X→Z) (f:(List Int)) (xx:Int) (qx:Int):Z:=
lt (dF.l0 (f,xx,qx,0,0,1,0,()) ()) fun w2208=>
rq w2208.1<|
rt w2208.2.2.1.2.2.2.2.1
noncomputable def r (f:(List Int)) (xx:Int) (qx:Int):Bool×X:=g chk (fun x=>(true,x)) f xx qx
noncomputable def D:aP:=Dof (P:=Tryz.prog) [fU.oF,iE.ent]
noncomputable def tab:List (Nat×LE Res):= [(4,.typed (fH 31 sh0 bx0 aW aM aN (bf [1] (rounds (fun rq kn ke kr x y=>g0 rq kn ke kr x y) () ()) fu0)))]
set_option maxRecDepth 100000 in
theorem run (f:(List Int)) (xx:Int) (qx:Int):aQ E0 [true] D (aJ E0 D tab 9) Tryz.f25 (codeOf Tryz.f25) [.val ⟨.sl (.int .i64),f⟩,.val ⟨.int .i64,xx⟩,.val ⟨.int .i64,qx⟩] []=g (fun c z=>req c z) (fun x=>some (res x)) f xx qx:=by kernel_rfl
theorem rel (f:(List Int)) (xx:Int) (qx:Int):J (fun w z=>z=some (res w)) (g chk (fun x=>(true,x)) f xx qx) (g (fun c z=>req c z) (fun x=>some (res x)) f xx qx):=by
 unfold g
 with_reducible repeat (first|(apply J.lt; intro _)|apply J.rq|apply J.bif|exact J.rt rfl)
set_option maxRecDepth 100000 in
theorem bG (x:ShX sh0) (y:BxX bx0) (kn:ShX sh0→BxX bx0→Option Res) (ke:Nat→ShX sh0→BxX bx0→Option Res) (kr:ShX aM→BxX aN→Option Res):d9 E0 D (aJ E0 D tab 8) (aD (codeOf Tryz.f25) 0) (inj 31 sh0 bx0 x y) (dN sh0 bx0 aW aM aN bC kn ke kr)=g0 (fun c z=>req c z) kn ke kr x y:=by kernel_rfl
theorem cB:Nonempty (Told E0 D tab Tryz.f25.ntmps (aD (codeOf Tryz.f25) 0) 31 sh0 bx0 aW aM aN (bf [1] (rounds (fun rq kn ke kr x y=>g0 rq kn ke kr x y) () ()) fu0)):=
 dh (sh:=sh0) (bx:=bx0) (ord:=aW) (shR:=aM) (bxR:=aN) bC 8 (by kernel_rfl) (by kernel_rfl) (by kernel_rfl) [1] fu0 () () (fun rq kn ke kr x y=>g0 rq kn ke kr x y) (fun rq kn ke kr x y=>g0 rq kn ke kr x y) (bG) (by
  intro φ kn1 kn2 ke1 ke2 kr1 kr2 h1 h2 h3 x y
  simp only [g0]
  with_reducible repeat (first|(apply J.lt; intro _)|apply J.rq|apply J.bif|exact h1 _ _|exact h2 _ (by decide) _ _|exact h3 (by decide) _ _))
theorem cK:fQ E0 D tab Tryz.f25.ntmps (codeOf Tryz.f25):=bY (bs:= [aD (codeOf Tryz.f25) 0]) (by kernel_rfl) (aK (cZ (by kernel_rfl) (cB)) bn)
theorem ok:dD Tryz.f25=true:=by kernel_rfl
abbrev aS:List AS:= [.one (.val (.sl (.int .i64))),.one (.val (.int .i64)),.one (.val (.int .i64))]
abbrev bS:List Ty:= []
noncomputable def F (x:ASs aS) (y:Bs bS):Brn Res:=brn (r x.1 x.2.1 x.2.2.1)
theorem good (x:ASs aS) (y:Bs bS) (h:(F x y).res.1=true):Good Tryz.prog 25 (ASs.mk aS x) (Bs.mk bS y) (F x y).res.2:=
 aF hE0 (aA _) Tryz.func25 ok cK aj (run x.1 x.2.1 x.2.2.1) (rel x.1 x.2.1 x.2.2.1) h
noncomputable def ent:Ent Tryz.prog:=⟨25,shF aS bS F,aB good⟩
end dF
namespace di
abbrev X:Type:=(List bL)
noncomputable def res (x:(List bL)):Res:=⟨[.val ⟨.sl dM,x⟩],[],[]⟩
noncomputable def brn (w:Bool×X):Brn Res:= .one w.1 (res w.2)
theorem aj (w:Bool×X):(brn w).res=(w.1,res w.2):=rfl
abbrev sh0:List (Nat×Sh):= [(0,.p (.sl (.int .i64))),(1,.p (.int .i64)),(2,.p (.int .i64)),(6,.nil),(7,.va 500000 dM),(8,.p (.int .i64))]
abbrev bx0:List (Nat×Ty):= [(500000,.dyn dM)]
abbrev aW:List (Nat×Ty):= [(500000,.dyn dM)]
abbrev aM:List (Nat×Sh):= []
abbrev aN:List (Nat×Ty):= []
abbrev bC:List (Nat×Ty):= []
abbrev X0:Type:=(List Int)×Int×Int×Unit×Unit×Int×Unit
abbrev Y0:Type:=(Bool×List bL)×Unit
abbrev U0:Type:=Unit
abbrev V0:Type:=Unit
noncomputable def g0 {Z:Type} (rq:Bool→Z→Z) (kn:X0→Y0→Z) (ke:Nat→X0→Y0→Z) (kr:U0→V0→Z) (x:X0) (y:Y0):Z:=
lt (ile x.2.2.2.2.2.1 x.2.1) fun v2212=>
bif v2212 then
lt (dF.r x.1 x.2.2.2.2.2.1 x.2.2.1) fun w2213=>
rq w2213.1<|
lt (bB.r w2213.2) fun w2214=>
rq w2214.1<|
lt (y.1.1&&false) fun (v2215:Bool)=>
lt (y.1.2++ [(x.2.2.2.2.2.1,(w2214.2,()))]) fun (v2216:(List bL))=>
rq (nle ((2*(y.1.2.length+1)+512)*40) 70368744177664)<|
lt (IntKind.i64.wrap (x.2.2.2.2.2.1+1)) fun v2217=>
kn (x.1,x.2.1,x.2.2.1,(),(),v2217,()) ((v2215,v2216),())
else
ke 0 (x.1,x.2.1,x.2.2.1,(),(),x.2.2.2.2.2.1,()) (y.1,())
noncomputable def fu0 (x:X0) (y:Y0):Nat:=(x.2.1 - x.2.2.2.2.2.1+1).toNat+1
noncomputable def l0 (x:X0) (y:Y0):Bool×Nat×X0×Y0×U0×V0:=rounds (fun rq kn ke kr x y=>g0 rq kn ke kr x y) () () (fu0 x y) x y
noncomputable def g {Z:Type} (rq:Bool→Z→Z) (rt:X→Z) (f:(List Int)) (n:Int) (qx:Int):Z:=
lt (di.l0 (f,n,qx,(),(),1,()) ((true,[]),())) fun w2218=>
rq w2218.1<|
rt w2218.2.2.2.1.1.2
noncomputable def r (f:(List Int)) (n:Int) (qx:Int):Bool×X:=g chk (fun x=>(true,x)) f n qx
noncomputable def D:aP:=Dof (P:=Tryz.prog) [dF.ent,bB.ent]
noncomputable def tab:List (Nat×LE Res):= [(4,.typed (fH 25 sh0 bx0 aW aM aN (bf [1] (rounds (fun rq kn ke kr x y=>g0 rq kn ke kr x y) () ()) fu0)))]
set_option maxRecDepth 100000 in
theorem run (f:(List Int)) (n:Int) (qx:Int):aQ E0 [true] D (aJ E0 D tab 9) Tryz.f9 (codeOf Tryz.f9) [.val ⟨.sl (.int .i64),f⟩,.val ⟨.int .i64,n⟩,.val ⟨.int .i64,qx⟩] []=g (fun c z=>req c z) (fun x=>some (res x)) f n qx:=by kernel_rfl
theorem rel (f:(List Int)) (n:Int) (qx:Int):J (fun w z=>z=some (res w)) (g chk (fun x=>(true,x)) f n qx) (g (fun c z=>req c z) (fun x=>some (res x)) f n qx):=by
 unfold g
 with_reducible repeat (first|(apply J.lt; intro _)|apply J.rq|apply J.bif|exact J.rt rfl)
set_option maxRecDepth 100000 in
theorem bG (x:ShX sh0) (y:BxX bx0) (kn:ShX sh0→BxX bx0→Option Res) (ke:Nat→ShX sh0→BxX bx0→Option Res) (kr:ShX aM→BxX aN→Option Res):d9 E0 D (aJ E0 D tab 8) (aD (codeOf Tryz.f9) 0) (inj 25 sh0 bx0 x y) (dN sh0 bx0 aW aM aN bC kn ke kr)=g0 (fun c z=>req c z) kn ke kr x y:=by kernel_rfl
theorem cB:Nonempty (Told E0 D tab Tryz.f9.ntmps (aD (codeOf Tryz.f9) 0) 25 sh0 bx0 aW aM aN (bf [1] (rounds (fun rq kn ke kr x y=>g0 rq kn ke kr x y) () ()) fu0)):=
 dh (sh:=sh0) (bx:=bx0) (ord:=aW) (shR:=aM) (bxR:=aN) bC 8 (by kernel_rfl) (by kernel_rfl) (by kernel_rfl) [1] fu0 () () (fun rq kn ke kr x y=>g0 rq kn ke kr x y) (fun rq kn ke kr x y=>g0 rq kn ke kr x y) (bG) (by
  intro φ kn1 kn2 ke1 ke2 kr1 kr2 h1 h2 h3 x y
  simp only [g0]
  with_reducible repeat (first|(apply J.lt; intro _)|apply J.rq|apply J.bif|exact h1 _ _|exact h2 _ (by decide) _ _|exact h3 (by decide) _ _))
theorem cK:fQ E0 D tab Tryz.f9.ntmps (codeOf Tryz.f9):=bY (bs:= [aD (codeOf Tryz.f9) 0]) (by kernel_rfl) (aK (cZ (by kernel_rfl) (cB)) bn)
theorem ok:dD Tryz.f9=true:=by kernel_rfl
abbrev aS:List AS:= [.one (.val (.sl (.int .i64))),.one (.val (.int .i64)),.one (.val (.int .i64))]
abbrev bS:List Ty:= []
noncomputable def F (x:ASs aS) (y:Bs bS):Brn Res:=brn (r x.1 x.2.1 x.2.2.1)
theorem good (x:ASs aS) (y:Bs bS) (h:(F x y).res.1=true):Good Tryz.prog 9 (ASs.mk aS x) (Bs.mk bS y) (F x y).res.2:=
 aF hE0 (aA _) Tryz.func9 ok cK aj (run x.1 x.2.1 x.2.2.1) (rel x.1 x.2.1 x.2.2.1) h
noncomputable def ent:Ent Tryz.prog:=⟨9,shF aS bS F,aB good⟩
end di
namespace aT
abbrev X:Type:=Bool
noncomputable def res (x:Bool):Res:=⟨[.val ⟨.bool,x⟩],[],[]⟩
noncomputable def brn (w:Bool×X):Brn Res:= .one w.1 (res w.2)
theorem aj (w:Bool×X):(brn w).res=(w.1,res w.2):=rfl
noncomputable def g {Z:Type} (rq:Bool→Z→Z) (rt:X→Z) (which:Int) (f:(List (List Int))) (n:Int):Z:=
lt (f.length:Int) fun (v1:Int)=>
lt (ilt 8 v1) fun v2=>
bif v2 then
lt aI.ro fun w1614=>
rq w1614.1<|
rt w1614.2
else
lt (dL.r which) fun w1615=>
rq w1615.1<|
lt (bZ.r w1615.2.1 f n) fun w1616=>
rq w1616.1<|
lt (ilt n 1) fun v1617=>
bif v1617 then
bif w1615.2.2.2 then
lt (w1616.2.1.length:Int) fun (v1618:Int)=>
lt (v1618== 0) fun (v1619:Bool)=>
bif v1619 then
lt (w1616.2.2== 1) fun (v1620:Bool)=>
bif v1620 then
lt aI.ro fun w1621=>
rq w1621.1<|
rt w1621.2
else
rt false
else
rt false
else
rt false
else
lt (ilt 7 n) fun v1622=>
bif v1622 then
bif w1615.2.2.2 then
lt (w1616.2.1.length:Int) fun (v1623:Int)=>
lt (v1623== 0) fun (v1624:Bool)=>
bif v1624 then
lt (w1616.2.2== 1) fun (v1625:Bool)=>
bif v1625 then
lt aI.ro fun w1626=>
rq w1626.1<|
rt w1626.2
else
rt false
else
rt false
else
rt false
else
bif w1615.2.2.2 then
lt (w1616.2.2== 0) fun (v1627:Bool)=>
bif v1627 then
lt (dU.r f w1615.2.2.1) fun w2185=>
rq w2185.1<|
lt (di.r w2185.2 n w1615.2.2.1) fun w2219=>
rq w2219.1<|
lt (bD.r w1616.2.1 w2219.2) fun w2220=>
rq w2220.1<|
bif w2220.2 then
lt aI.ro fun w2221=>
rq w2221.1<|
rt w2221.2
else
rt false
else
rt false
else
rt false
noncomputable def r (which:Int) (f:(List (List Int))) (n:Int):Bool×X:=g chk (fun x=>(true,x)) which f n
noncomputable def D:aP:=Dof (P:=Tryz.prog) [aI.oF,dL.ent,bZ.ent,dU.ent,di.ent,bD.ent]
noncomputable def tab:List (Nat×LE Res):= []
set_option maxRecDepth 100000 in
theorem run (which:Int) (f:(List (List Int))) (n:Int):aQ E0 [true] D (aJ E0 D tab 9) Tryz.f3 (codeOf Tryz.f3) [.val ⟨.int .i64,which⟩,.val ⟨.sl (.arr 4 (.int .u64)),f⟩,.val ⟨.int .i64,n⟩] []=g (fun c z=>req c z) (fun x=>some (res x)) which f n:=by kernel_rfl
theorem rel (which:Int) (f:(List (List Int))) (n:Int):J (fun w z=>z=some (res w)) (g chk (fun x=>(true,x)) which f n) (g (fun c z=>req c z) (fun x=>some (res x)) which f n):=by
 unfold g
 with_reducible repeat (first|(apply J.lt; intro _)|apply J.rq|apply J.bif|exact J.rt rfl)
theorem ok:dD Tryz.f3=true:=by kernel_rfl
abbrev aS:List AS:= [.one (.val (.int .i64)),.one (.val (.sl (.arr 4 (.int .u64)))),.one (.val (.int .i64))]
abbrev bS:List Ty:= []
noncomputable def F (x:ASs aS) (y:Bs bS):Brn Res:=brn (r x.1 x.2.1 x.2.2.1)
theorem good (x:ASs aS) (y:Bs bS) (h:(F x y).res.1=true):Good Tryz.prog 3 (ASs.mk aS x) (Bs.mk bS y) (F x y).res.2:=
 aF hE0 (aA _) Tryz.func3 ok aO aj (run x.1 x.2.1 x.2.2.1) (rel x.1 x.2.1 x.2.2.1) h
noncomputable def ent:Ent Tryz.prog:=⟨3,shF aS bS F,aB good⟩
end aT
namespace gQ
abbrev X:Type:=(Unit×((List Int)×Unit))×(Bool×List gB)
noncomputable def res (x:(Unit×((List Int)×Unit))×(Bool×List gB)):Res:=⟨[.sd ⟨.pair (.vw 1000000 iW) (.pair (.arr 4 (.int .u64)) .unit),x.1⟩],[],[⟨.dyn iW,x.2⟩]⟩
noncomputable def brn (w:Bool×X):Brn Res:= .one w.1 (res w.2)
theorem aj (w:Bool×X):(brn w).res=(w.1,res w.2):=rfl
noncomputable def g {Z:Type} (rq:Bool→Z→Z) (rt:X→Z):Z:=
rt (((),([12280068205398558585,6413536983304955349,8741009603146644127,1457863],())),(false,[([65519,0,0,0],(0,())),([1313918027,0,0,0],(2,())),([88175567203779761,0,0,0],(2,())),([15752163429641756547,344435809389764,0,0],(2,())),([3727879549075534671,12844076830096575486,1228573241546452547,20529974],(2,()))]))
noncomputable def r:Bool×X:=g chk (fun x=>(true,x))
noncomputable def D:aP:=Dof (P:=Tryz.prog) []
noncomputable def tab:List (Nat×LE Res):= []
set_option maxRecDepth 100000 in
theorem run:aQ E0 [false] D (aJ E0 D tab 9) Tryz.f14 (codeOf Tryz.f14) [] []=g (fun c z=>req c z) (fun x=>some (res x)):=by kernel_rfl
theorem rel:J (fun w z=>z=some (res w)) (g chk (fun x=>(true,x))) (g (fun c z=>req c z) (fun x=>some (res x))):=by
 unfold g
 with_reducible repeat (first|(apply J.lt; intro _)|apply J.rq|apply J.bif|exact J.rt rfl)
theorem ok:dD Tryz.f14=true:=by kernel_rfl
abbrev aS:List AS:= []
abbrev bS:List Ty:= []
noncomputable def F (_:ASs aS) (_:Bs bS):Brn Res:=brn r
theorem good (x:ASs aS) (y:Bs bS) (h:(F x y).res.1=true):Good Tryz.prog 14 (ASs.mk aS x) (Bs.mk bS y) (F x y).res.2:=
 aF hE0 (aA _) Tryz.func14 ok aO aj (run) (rel) h
noncomputable def ent:Ent Tryz.prog:=⟨14,shF aS bS F,aB good⟩
noncomputable def ro:Bool×X:=Classical.choose (⟨r,rfl⟩:∃ q:Bool×X,q=r)
theorem fT:ro=r:=Classical.choose_spec (⟨r,rfl⟩:∃ q:Bool×X,q=r)
noncomputable def FO (_:ASs aS) (_:Bs bS):Brn Res:=brn ro
theorem kY:FO=F:=by unfold FO F; rw [fT]
noncomputable def oF:Ent Tryz.prog:=⟨14,shF aS bS FO,aB (by rw [kY]; exact good)⟩
end gQ
namespace aH
abbrev X:Type:=Bool
noncomputable def res (x:Bool):Res:=⟨[.val ⟨.bool,x⟩],[],[]⟩
noncomputable def brn (w:Bool×X):Brn Res:= .one w.1 (res w.2)
theorem aj (w:Bool×X):(brn w).res=(w.1,res w.2):=rfl
abbrev sh0:List (Nat×Sh):= [(1,.p (.sl (.arr 4 (.int .u64)))),(2,.p (.int .i64)),(6,.p .bool),(7,.p (.ref au)),(9,.p (.sl dM)),(11,.va 500000 dM),(12,.p (.int .i64))]
abbrev bx0:List (Nat×Ty):= [(500000,.dyn dM)]
abbrev aW:List (Nat×Ty):= [(500000,.dyn dM)]
abbrev aM:List (Nat×Sh):= []
abbrev aN:List (Nat×Ty):= []
abbrev bC:List (Nat×Ty):= []
abbrev X0:Type:=(List (List Int))×Int×Bool×(Option ai)×(List bL)×Unit×Int×Unit
abbrev Y0:Type:=(Bool×List bL)×Unit
abbrev U0:Type:=Unit
abbrev V0:Type:=Unit
noncomputable def g0 {Z:Type} (rq:Bool→Z→Z) (kn:X0→Y0→Z) (ke:Nat→X0→Y0→Z) (kr:U0→V0→Z) (x:X0) (y:Y0):Z:=
lt (ilt x.2.2.2.2.2.2.1 7) fun v2268=>
bif v2268 then
lt (x.2.2.2.2.1.length:Int) fun (v2269:Int)=>
lt (ilt x.2.2.2.2.2.2.1 v2269) fun v2270=>
bif v2270 then
lt (x.2.1.fdiv (2^(min x.2.2.2.2.2.2.1.toNat 64))) fun (v2271:Int)=>
rq (!ilt x.2.2.2.2.2.2.1 0)<|
lt (eB .i64 (· &&& ·) v2271 (1:Int)) fun v2272=>
lt (v2272== 1) fun (v2273:Bool)=>
bif v2273 then
lt (x.2.2.2.2.1.getD x.2.2.2.2.2.2.1.toNat (0,([0,0,0,0],()))) fun (v2274:bL)=>
rq (ile (0:Int) x.2.2.2.2.2.2.1&&ilt x.2.2.2.2.2.2.1 (x.2.2.2.2.1.length:Int))<|
lt (y.1.1&&false) fun (v2275:Bool)=>
lt (y.1.2++ [v2274]) fun (v2276:(List bL))=>
rq (nle ((2*(y.1.2.length+1)+512)*40) 70368744177664)<|
lt (IntKind.i64.wrap (x.2.2.2.2.2.2.1+1)) fun v2277=>
kn (x.1,x.2.1,x.2.2.1,x.2.2.2.1,x.2.2.2.2.1,(),v2277,()) ((v2275,v2276),())
else
lt (IntKind.i64.wrap (x.2.2.2.2.2.2.1+1)) fun v2278=>
kn (x.1,x.2.1,x.2.2.1,x.2.2.2.1,x.2.2.2.2.1,(),v2278,()) (y.1,())
else
ke 0 (x.1,x.2.1,x.2.2.1,x.2.2.2.1,x.2.2.2.2.1,(),x.2.2.2.2.2.2.1,()) (y.1,())
else
ke 0 (x.1,x.2.1,x.2.2.1,x.2.2.2.1,x.2.2.2.2.1,(),x.2.2.2.2.2.2.1,()) (y.1,())
noncomputable def fu0 (x:X0) (y:Y0):Nat:=((7:Int) - x.2.2.2.2.2.2.1).toNat+1
noncomputable def l0 (x:X0) (y:Y0):Bool×Nat×X0×Y0×U0×V0:=rounds (fun rq kn ke kr x y=>g0 rq kn ke kr x y) () () (fu0 x y) x y
noncomputable def g {Z:Type} (rq:Bool→Z→Z) (rt:X→Z) (which:Int) (f:(List (List Int))) (somex:Int):Z:=
lt (f.length:Int) fun (v2250:Int)=>
lt (ilt v2250 1) fun v2251=>
bif v2251 then
lt aI.ro fun w2252=>
rq w2252.1<|
rt w2252.2
else
lt (f.length:Int) fun (v2253:Int)=>
lt (ilt 7 v2253) fun v2254=>
bif v2254 then
lt aI.ro fun w2255=>
rq w2255.1<|
rt w2255.2
else
lt eY.ro fun w2256=>
rq w2256.1<|
lt eX.ro fun w2257=>
rq w2257.1<|
lt gQ.ro fun w2258=>
rq w2258.1<|
lt (eB .i64 (· &&& ·) which (255:Int)) fun v2259=>
lt (v2259.tmod 3) fun (v2260:Int)=>
rq (ile (0:Int) v2260&&ilt v2260 3)<|
lt ([(w2256.2.2.2,w2256.2.1.2),(w2257.2.2.2,w2257.2.1.2),(w2258.2.2.2,w2258.2.1.2)].getD v2260.toNat ([],([0,0,0,0],()))) fun (v2261:iV)=>
lt (iZ.r v2261) fun w2262=>
bif Nat.beq w2262.2.1 0 then
rq w2262.1<|
lt (bZ.r w2262.2.2.1.1 f 7) fun w2263=>
rq w2263.1<|
lt (w2262.2.2.1.2 != 0) fun (v2264:Bool)=>
bif v2264 then
rt false
else
lt (w2263.2.2 != 0) fun (v2265:Bool)=>
bif v2265 then
rt false
else
lt (w2263.2.1.length:Int) fun (v2266:Int)=>
lt (v2266 != 7) fun (v2267:Bool)=>
bif v2267 then
rt false
else
lt (aH.l0 (f,somex,false,w2262.2.2.1.1,w2263.2.1,(),0,()) ((true,[]),())) fun w2279=>
rq w2279.1<|
lt (w2279.2.2.1.1.length:Int) fun (v2280:Int)=>
lt (IntKind.i64.wrap (v2280 - 1)) fun v2281=>
lt (bQ.r w2279.2.2.1.2.2.2.1 v2281 w2279.2.2.2.1.1.2) fun w2282=>
bif Nat.beq w2282.2.1 0 then
rq w2282.1<|
lt (w2279.2.2.2.1.1.2.length:Int) fun (v2283:Int)=>
lt (w2279.2.2.1.1.length:Int) fun (v2284:Int)=>
lt (ilt v2283 v2284) fun v2285=>
bif v2285 then
lt (w2282.2.2.1== 3) fun (v2286:Bool)=>
bif v2286 then
lt aI.ro fun w2287=>
rq w2287.1<|
rt w2287.2
else
rt false
else
lt (bZ.r w2279.2.2.1.2.2.2.1 [] 7) fun w2288=>
rq w2288.1<|
lt (w2282.2.2.1== 0) fun (v2289:Bool)=>
bif v2289 then
lt (w2288.2.2== 0) fun (v2290:Bool)=>
bif v2290 then
lt (bD.r w2288.2.1 w2279.2.2.1.2.2.2.2.1) fun w2291=>
rq w2291.1<|
bif w2291.2 then
lt (w2279.2.2.1.1.length:Int) fun (v2292:Int)=>
lt (ile (0:Int) v2292) fun v2293=>
bif v2293 then
lt aI.ro fun w2294=>
rq w2294.1<|
rt w2294.2
else
rt false
else
rt false
else
rt false
else
rt false
else
rq w2282.1<|
lt (w2279.2.2.2.1.1.2.length:Int) fun (v2295:Int)=>
lt (w2279.2.2.1.1.length:Int) fun (v2296:Int)=>
lt (ilt v2295 v2296) fun v2297=>
bif v2297 then
lt ((w2282.2.2.2.2.1:Nat):Int) fun (v2298:Int)=>
lt (v2298== 0) fun (v2299:Bool)=>
bif v2299 then
lt (w2282.2.2.2.2.2.1== 3) fun (v2300:Bool)=>
bif v2300 then
lt aI.ro fun w2301=>
rq w2301.1<|
rt w2301.2
else
rt false
else
rt false
else
lt (bZ.r w2279.2.2.1.2.2.2.1 ((w2282.2.2.2.2.2.2.2.drop w2282.2.2.2.1).take w2282.2.2.2.2.1) 7) fun w2302=>
rq w2302.1<|
lt (w2282.2.2.2.2.2.1== 0) fun (v2303:Bool)=>
bif v2303 then
lt (w2302.2.2== 0) fun (v2304:Bool)=>
bif v2304 then
lt (bD.r w2302.2.1 w2279.2.2.1.2.2.2.2.1) fun w2305=>
rq w2305.1<|
bif w2305.2 then
lt ((w2282.2.2.2.2.2.2.2.drop w2282.2.2.2.1).take w2282.2.2.2.2.1) fun (v2306:(List (List Int)))=>
lt (v2306.length:Int) fun (v2307:Int)=>
lt (w2279.2.2.1.1.length:Int) fun (v2308:Int)=>
lt (ile v2307 v2308) fun v2309=>
bif v2309 then
lt aI.ro fun w2310=>
rq w2310.1<|
rt w2310.2
else
rt false
else
rt false
else
rt false
else
rt false
else
rq w2262.1<|
lt (bZ.r (some w2262.2.2.2.2) f 7) fun w2311=>
rq w2311.1<|
lt (w2262.2.2.2.1 != 0) fun (v2312:Bool)=>
bif v2312 then
rt false
else
lt (w2311.2.2 != 0) fun (v2313:Bool)=>
bif v2313 then
rt false
else
lt (w2311.2.1.length:Int) fun (v2314:Int)=>
lt (v2314 != 7) fun (v2315:Bool)=>
bif v2315 then
rt false
else
lt (aH.l0 (f,somex,false,(some w2262.2.2.2.2),w2311.2.1,(),0,()) ((true,[]),())) fun w2316=>
rq w2316.1<|
lt (w2316.2.2.1.1.length:Int) fun (v2317:Int)=>
lt (IntKind.i64.wrap (v2317 - 1)) fun v2318=>
lt (bQ.r w2316.2.2.1.2.2.2.1 v2318 w2316.2.2.2.1.1.2) fun w2319=>
bif Nat.beq w2319.2.1 0 then
rq w2319.1<|
lt (w2316.2.2.2.1.1.2.length:Int) fun (v2320:Int)=>
lt (w2316.2.2.1.1.length:Int) fun (v2321:Int)=>
lt (ilt v2320 v2321) fun v2322=>
bif v2322 then
lt (w2319.2.2.1== 3) fun (v2323:Bool)=>
bif v2323 then
lt aI.ro fun w2324=>
rq w2324.1<|
rt w2324.2
else
rt false
else
lt (bZ.r w2316.2.2.1.2.2.2.1 [] 7) fun w2325=>
rq w2325.1<|
lt (w2319.2.2.1== 0) fun (v2326:Bool)=>
bif v2326 then
lt (w2325.2.2== 0) fun (v2327:Bool)=>
bif v2327 then
lt (bD.r w2325.2.1 w2316.2.2.1.2.2.2.2.1) fun w2328=>
rq w2328.1<|
bif w2328.2 then
lt (w2316.2.2.1.1.length:Int) fun (v2329:Int)=>
lt (ile (0:Int) v2329) fun v2330=>
bif v2330 then
lt aI.ro fun w2331=>
rq w2331.1<|
rt w2331.2
else
rt false
else
rt false
else
rt false
else
rt false
else
rq w2319.1<|
lt (w2316.2.2.2.1.1.2.length:Int) fun (v2332:Int)=>
lt (w2316.2.2.1.1.length:Int) fun (v2333:Int)=>
lt (ilt v2332 v2333) fun v2334=>
bif v2334 then
lt ((w2319.2.2.2.2.1:Nat):Int) fun (v2335:Int)=>
lt (v2335== 0) fun (v2336:Bool)=>
bif v2336 then
lt (w2319.2.2.2.2.2.1== 3) fun (v2337:Bool)=>
bif v2337 then
lt aI.ro fun w2338=>
rq w2338.1<|
rt w2338.2
else
rt false
else
rt false
else
lt (bZ.r w2316.2.2.1.2.2.2.1 ((w2319.2.2.2.2.2.2.2.drop w2319.2.2.2.1).take w2319.2.2.2.2.1) 7) fun w2339=>
rq w2339.1<|
lt (w2319.2.2.2.2.2.1== 0) fun (v2340:Bool)=>
bif v2340 then
lt (w2339.2.2== 0) fun (v2341:Bool)=>
bif v2341 then
lt (bD.r w2339.2.1 w2316.2.2.1.2.2.2.2.1) fun w2342=>
rq w2342.1<|
bif w2342.2 then
lt ((w2319.2.2.2.2.2.2.2.drop w2319.2.2.2.1).take w2319.2.2.2.2.1) fun (v2343:(List (List Int)))=>
lt (v2343.length:Int) fun (v2344:Int)=>
lt (w2316.2.2.1.1.length:Int) fun (v2345:Int)=>
lt (ile v2344 v2345) fun v2346=>
bif v2346 then
lt aI.ro fun w2347=>
rq w2347.1<|
rt w2347.2
else
rt false
else
rt false
else
rt false
else
rt false
noncomputable def r (which:Int) (f:(List (List Int))) (somex:Int):Bool×X:=g chk (fun x=>(true,x)) which f somex
noncomputable def D:aP:=Dof (P:=Tryz.prog) [aI.oF,eY.oF,eX.oF,gQ.oF,iZ.ent,bZ.ent,bQ.ent,bD.ent]
noncomputable def tab:List (Nat×LE Res):= [(10,.typed (fH 129 sh0 bx0 aW aM aN (bf [1] (rounds (fun rq kn ke kr x y=>g0 rq kn ke kr x y) () ()) fu0)))]
set_option maxRecDepth 100000 in
theorem run (which:Int) (f:(List (List Int))) (somex:Int):aQ E0 [true] D (aJ E0 D tab 9) Tryz.f4 (codeOf Tryz.f4) [.val ⟨.int .i64,which⟩,.val ⟨.sl (.arr 4 (.int .u64)),f⟩,.val ⟨.int .i64,somex⟩] []=g (fun c z=>req c z) (fun x=>some (res x)) which f somex:=by kernel_rfl
theorem rel (which:Int) (f:(List (List Int))) (somex:Int):J (fun w z=>z=some (res w)) (g chk (fun x=>(true,x)) which f somex) (g (fun c z=>req c z) (fun x=>some (res x)) which f somex):=by
 unfold g
 with_reducible repeat (first|(apply J.lt; intro _)|apply J.rq|apply J.bif|exact J.rt rfl)
set_option maxRecDepth 100000 in
theorem bG (x:ShX sh0) (y:BxX bx0) (kn:ShX sh0→BxX bx0→Option Res) (ke:Nat→ShX sh0→BxX bx0→Option Res) (kr:ShX aM→BxX aN→Option Res):d9 E0 D (aJ E0 D tab 8) (aD (codeOf Tryz.f4) 0) (inj 129 sh0 bx0 x y) (dN sh0 bx0 aW aM aN bC kn ke kr)=g0 (fun c z=>req c z) kn ke kr x y:=by kernel_rfl
theorem cB:Nonempty (Told E0 D tab Tryz.f4.ntmps (aD (codeOf Tryz.f4) 0) 129 sh0 bx0 aW aM aN (bf [1] (rounds (fun rq kn ke kr x y=>g0 rq kn ke kr x y) () ()) fu0)):=
 dh (sh:=sh0) (bx:=bx0) (ord:=aW) (shR:=aM) (bxR:=aN) bC 8 (by kernel_rfl) (by kernel_rfl) (by kernel_rfl) [1] fu0 () () (fun rq kn ke kr x y=>g0 rq kn ke kr x y) (fun rq kn ke kr x y=>g0 rq kn ke kr x y) (bG) (by
  intro φ kn1 kn2 ke1 ke2 kr1 kr2 h1 h2 h3 x y
  simp only [g0]
  with_reducible repeat (first|(apply J.lt; intro _)|apply J.rq|apply J.bif|exact h1 _ _|exact h2 _ (by decide) _ _|exact h3 (by decide) _ _))
theorem cK:fQ E0 D tab Tryz.f4.ntmps (codeOf Tryz.f4):=bY (bs:= [aD (codeOf Tryz.f4) 0]) (by kernel_rfl) (aK (cZ (by kernel_rfl) (cB)) bn)
theorem ok:dD Tryz.f4=true:=by kernel_rfl
abbrev aS:List AS:= [.one (.val (.int .i64)),.one (.val (.sl (.arr 4 (.int .u64)))),.one (.val (.int .i64))]
abbrev bS:List Ty:= []
noncomputable def F (x:ASs aS) (y:Bs bS):Brn Res:=brn (r x.1 x.2.1 x.2.2.1)
theorem good (x:ASs aS) (y:Bs bS) (h:(F x y).res.1=true):Good Tryz.prog 4 (ASs.mk aS x) (Bs.mk bS y) (F x y).res.2:=
 aF hE0 (aA _) Tryz.func4 ok cK aj (run x.1 x.2.1 x.2.2.1) (rel x.1 x.2.1 x.2.2.1) h
noncomputable def ent:Ent Tryz.prog:=⟨4,shF aS bS F,aB good⟩
end aH
end Go.Own
