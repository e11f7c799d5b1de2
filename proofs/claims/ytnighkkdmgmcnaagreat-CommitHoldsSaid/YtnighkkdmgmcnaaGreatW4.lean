/- What is proved: the evaluator of the translated code, and that it is sound, part 4. Conditions: those that each theorem names. -/
import Derived.Test.YtnighkkdmgmcnaaGreatW3
import Derived.Below
import Derived.Test.YtnighkkdmgmcnaaGreatW0
set_option linter.unusedVariables false
set_option linter.unusedSimpArgs false
namespace Go.Own
structure Rec where
 ks:List Nat
 kb:List Nat
 rv:List Nat
 ws:List Nat
 wb:List Nat
 wr:List Nat
 tc:List Nat
 ts:List Nat
 tb:List Nat
 fz:Bool
 deriving Inhabited
def Pm.ws:Pm→List Nat
 | .set i _=> [i]
 |_=> []
def Pm.wb:Pm→List Nat
 | .ins s _=> [s]
 | .del s=> [s]
 | .frz s _=> [s]
 |_=> []
def Pm.wr:Pm→List Nat
 | .set _ v=>v.dO
 | .ins _ d=>mentions d.1
 |_=> []
def Pm.tc:Pm→List Nat
 | .kill s=> [s]
 | .frz s _=> [s]
 |_=> []
def Pm.fz:Pm→Bool
 | .frz _ _=>true
 |_=>false
def tmpsIn (xs:List Operand):List Nat:=xs.filterMap fun| .tmp t=>some t|_=>none
def looks (o:Oper):List Operand:=o.op.operands.toList
def nN (dst:Option Nat) (e:Ef):List Pm:=match e.v,dst with
 |some v,some d=>e.ps++ [.set d v]
 |_,_=>e.ps
def yH (keep:List Nat):Nat→List SV→List SV
 |_,[]=> []
 |i,v::r=>(bif keep.any (Nat.beq i) then v else .dead)::yH keep (i+1) r
def Mr (keep:List Nat) (l:List (Nat×DV)):List (Nat×DV):=l.filter fun x=>keep.any (Nat.beq x.1)
def St.view (ks kb:List Nat) (st:St):St:=⟨yH ks 0 st.sl,Mr kb st.bx⟩
def meets (a b:List Nat):Bool:=a.any fun x=>b.any (Nat.beq x)
def mQ (tc:List Nat):Nat→List SV→List Nat
 |_,[]=> []
 |i,v::r=>bif meets v.dO tc then i::mQ tc (i+1) r else mQ tc (i+1) r
def zu (tc:List Nat) (l:List (Nat×DV)):List Nat:=(l.filter fun x=>meets (mentions x.2.1) tc).map (·.1)
def Ru (o:Oper):Bool:=match o.op with
 | .move _=>true
 | .assign _=>true
 | .nilCheck _=>true
 | .fieldAddr .. =>true
 | .indexAddr .. =>true
 | .load .. =>true
 |_=>false
def sees (o:Oper) (g:List Nat) (st:St):List Nat×List Nat:=
 let sn:=g++tmpsIn (looks o)
 (sn,bif Ru o then (sn.flatMap fun i=>(st.slot i).dO) else mR st 1000 (sn.flatMap fun i=>(st.slot i).dO) [])
def nC (v:List Nat×List Nat) (st:St) (ps:List Pm):Rec:=
 let tc:=ps.flatMap Pm.tc
 {ks:=v.1,kb:=v.2,rv:=(v.1.flatMap fun i=>(st.slot i).dO)++v.2.flatMap fun s=>Ad (st.box s),
  ws:=ps.flatMap Pm.ws,wb:=ps.flatMap Pm.wb,wr:=ps.flatMap Pm.wr,tc:=tc,
  ts:=bif tc.isEmpty then [] else mQ tc 0 st.sl,tb:=bif tc.isEmpty then [] else zu tc st.bx,fz:=ps.any Pm.fz}
def indep (j i:Rec):Bool:=
 o9 j.ws i.ks&&o9 j.ws i.ws&&o9 i.ws j.ks&&o9 j.wb i.kb&&o9 j.wb i.wb&&o9 i.wb j.kb&&
 o9 j.ts i.ks&&o9 j.tb i.kb&&o9 i.tc j.rv&&
 o9 j.tc i.wr&&o9 i.tc j.wr&&o9 j.tc i.tc&&o9 j.tc i.wb&&o9 i.tc j.wb&&(!j.fz||i.tc.isEmpty)&&(!i.fz||j.tc.isEmpty)
def uI (ops:List Oper):List Nat:=
 ops.foldl (fun acc o=>acc++ [o.after.toList.foldl (fun s e=>bif Region.binds .any e then s||| 2^e.on||| acc.getD e.on 0 else s) 0]) []
def guardOf (all:List Oper) (o:Oper):Option (Option (Nat×Bool)):=
 match o.guard with
 |none=>some none
 |some (j,want)=>match (all[j]?).bind (·.dst) with
  |some d=>some (some (d,want))
  |none=>none
section
variable {R:Type}
def req (c:Bool) (x:Option R):Option R:=bif c then x else none
def Brn.k (k:Ef→Option R):Brn Ef→Option R
 | .one c e=>req c (k e)
 | .ite b l r=>bif b then l.k k else r.k k
def opG (E:Env) (D:aH) (all:List Oper) (o:Oper) (st:St) (k:St→Option R):Option R:=
 let go (st:St):Option R:=match FW E D o st with
  |some b=>b.k fun e=>k (e.run o.dst st)
  |none=>none
 match guardOf all o with
 |some none=>go st
 |some (some (d,want))=>match st.slot d with
  | .p ⟨.bool,b⟩=>
   bif b then
    bif want then go {st with sl:=st.sl.set d (.p ⟨.bool,true⟩)} else k ({st with sl:=st.sl.set d (.p ⟨.bool,true⟩)}.M9 o.dst .und)
   else
    bif want then k ({st with sl:=st.sl.set d (.p ⟨.bool,false⟩)}.M9 o.dst .und) else go {st with sl:=st.sl.set d (.p ⟨.bool,false⟩)}
  | .und=>k (st.M9 o.dst .und)
  |_=>none
 |none=>none
def Si (E:Env) (D:aH) (all:List Oper):List Oper→St→(St→Option R)→Option R
 | [],st,k=>k st
 |o::os,st,k=>opG E D all o st fun st'=>Si E D all os st' k
def Jk (E:Env) (D:aH) (all:List Oper) (o:Oper) (st:St) (k:Rec→List Pm→St→Option R):Option R:=
 let go (g:List Nat) (st:St):Option R:=
  let v:=sees o g st
  match FW E D o (st.view v.1 v.2) with
  |some b=>b.k fun e=>k (nC v st (nN o.dst e)) (nN o.dst e) st
  |none=>none
 let skip (g:Nat) (st:St):Option R:=k (nC ([g],[]) st (nN o.dst ⟨[],some .und⟩)) (nN o.dst ⟨[],some .und⟩) st
 match guardOf all o with
 |some none=>go [] st
 |some (some (d,want))=>match st.slot d with
  | .p ⟨.bool,b⟩=>
   bif b then
    bif want then go [d] {st with sl:=st.sl.set d (.p ⟨.bool,true⟩)} else skip d {st with sl:=st.sl.set d (.p ⟨.bool,true⟩)}
   else
    bif want then skip d {st with sl:=st.sl.set d (.p ⟨.bool,false⟩)} else go [d] {st with sl:=st.sl.set d (.p ⟨.bool,false⟩)}
  | .und=>skip d st
  |_=>none
 |none=>none
def Ku (E:Env) (D:aH) (all:List Oper) (ah:List Nat):List (Nat×Oper)→List (Nat×Rec)→St→(St→Option R)→Option R
 | [],_,st,k=>k st
 |(i,o)::os,acc,st,k=>Jk E D all o st fun r ps st'=>
   bif acc.all (fun p=>(ah.getD i 0).testBit p.1||indep p.2 r) then Ku E D all ah os ((i,r)::acc) (aN ps st') k else none
def numbered:Nat→List Oper→List (Nat×Oper)
 |_,[]=> []
 |n,o::os=>(n,o)::numbered (n+1) os
def OH (ops:List (Nat×Oper)):Bool:=ops.all fun p=>p.2.after.toList.all fun e=> !Region.binds .any e||Nat.blt e.on p.1
def wL (E:Env) (D:aH) (ops:List Oper) (st:St) (k:St→Option R):Option R:=
 bif OH (numbered 0 ops) then Ku E D ops (uI ops) (numbered 0 ops) [] st k else none
inductive Ex where
 |normal
 |exit (id:Nat)
 |ret
abbrev Dq (R:Type):=Nat→Code→St→(Ex→St→Option R)→Option R
def mX (E:Env) (D:aH) (loop:Dq R):Code→St→(Ex→St→Option R)→Option R
 | .skip,st,k=>k .normal st
 | .label _,st,k=>k .normal st
 | .region _ ops drawn,st,k=>bif drawn then wL E D ops.toList st (k .normal) else Si E D ops.toList ops.toList st (k .normal)
 | .seq a b,st,k=>mX E D loop a st fun ex st'=>match ex with
  | .normal=>mX E D loop b st' k
  |ex=>k ex st'
 | .cond c a b,st,k=>match ev st c with
  | .p ⟨.bool,c⟩=>bif c then mX E D loop a st k else mX E D loop b st k
  |_=>none
 | .block id a,st,k=>mX E D loop a st fun ex st'=>match ex with
  | .exit i=>bif i== id then k .normal st' else k (.exit i) st'
  |ex=>k ex st'
 | .loop a,st,k=>loop 0 a st k
 | .scope a,st,k=>mX E D loop a st k
 | .exit id,st,k=>k (.exit id) st
 | .ret,st,k=>k .ret st
 |_,_,_=>none
def Ke (body:St→(Ex→St→Option R)→Option R):Nat→St→(Ex→St→Option R)→Option R
 |0,_,_=>none
 |n+1,st,k=>body st fun ex st'=>match ex with
  | .normal=>Ke body n st' k
  |ex=>k ex st'
end
def Bo:AV→SV
 | .val d=> .p d
 | .va s t=> .va s t
 | .vs s t pa lo n=> .vs s t pa lo n
 | .pb s t pa=> .pb s t pa
 | .mp s k v=> .mp s k v
 | .nil=> .nil
 | .nilp=> .nilp
 | .clo _ _=> .dead
def Jv:AV→SV
 | .clo f caps=> .clo f (caps.map Bo)
 |v=>Bo v
def iC:Nat→List DV→List (Nat×DV)
 |_,[]=> []
 |j,d::ds=>(site j,d)::iC (j+1) ds
def zh (l:List (Nat×Ty)):List (Nat×DV):=l.map fun p=>(p.1,⟨.pool p.2,[]⟩)
def wN:List (Nat×Ty)→Bool
 | []=>true
 |(s,t)::r=>Nat.blt s 1000000&&t.plain&&r.all (fun p=>Nat.blt s p.1)&&wN r
def Kc (as:List AV) (bs:List DV):Bool:=(as.flatMap xw).all (fun p=>Nat.ble 1000000 p)&&(bs.flatMap fun d=>mentions d.1).all fun p=>Nat.ble 1000000 p
def st0 (l:List (Nat×Ty)) (n:Nat) (as:List AV) (bs:List DV):St:=⟨as.map Jv++List.replicate (n - as.length) .dead,zh l++iC 0 bs⟩
def rF (E:Env) (st:St):ResultVar→Option SV
 | .tmp t=>some (match st.slot t with| .und=> .dead|v=>v)
 | .cell a T=>match Kg st (st.slot a) with
  |some (t,v)=>bif E.isT T t then some v else none
  |_=>none
def j3 (n s:Nat):Bool:=Nat.ble 1000000 s&&Nat.blt s (1000000+n)
def zT (ρ:Nat→Nat):SV→Option RV
 | .p d=>some (.val d)
 | .sd d=>some (.sd (d.ren ρ))
 | .va s t=>some (.va (ρ s) t)
 | .vs s t pa lo n=>some (.vs (ρ s) t pa lo n)
 | .pb s t pa=>some (.pb (ρ s) t pa)
 | .mp s k v=>some (.mp (ρ s) k v)
 | .nil=>some .nil
 | .nilp=>some .nilp
 |_=>none
def qL (ρ:Nat→Nat) (st:St):Nat→Nat→List (Option DV)
 |_,0=> []
 |j,n+1=>((st.box (site j)).map (DV.ren ρ))::qL ρ st (j+1) n
section
def Ck (E:Env) (ρ:Nat→Nat) (fs:List Pm):List TypeId→List Bool→List SV→Option (List RV)
 |_,_,[]=>some []
 |Ts,fz,v::vs=>match (bif fz.headD true then (oK (E.T (Ts.headD 0)) (qU fs v)).map .val else zT ρ (qU fs v)),Ck E ρ fs Ts.tail fz.tail vs with
  |some r,some rs=>some (r::rs)
  |_,_=>none
def zo:List Bool→List SV→List SV
 |_,[]=> []
 |fz,v::vs=>bif fz.headD true then v::zo fz.tail vs else zo fz.tail vs
def q8:List Bool→List SV→List SV
 |_,[]=> []
 |fz,v::vs=>bif fz.headD true then q8 fz.tail vs else v::q8 fz.tail vs
def NK (E:Env) (fz:List Bool) (results:List ResultVar) (Ts:List TypeId) (n:Nat):Ex→St→Option Res
 | .exit _,_=>none
 |_,st=>match results.mapM (rF E st) with
  |some vs=>match oZ st (zo fz vs) with
   |some fs=>
    let st:=aN fs st
    let own:=(mR st 1000 (((q8 fz vs).flatMap fun v=>(qU fs v).dO)++(List.range n).flatMap fun j=>match st.box (site j) with|some d=>mentions d.1|none=> []) []).filter fun s=> !j3 n s
    let ρ:Nat→Nat:=fun s=>bif j3 n s then s else site (n+idxOf s own)
    match Ck E ρ fs Ts fz vs,own.mapM st.box with
    |some rs,some ds=>bif nodupB own&&mY ⟨rs,qL ρ st 0 n,ds.map (DV.ren ρ)⟩ then some ⟨rs,qL ρ st 0 n,ds.map (DV.ren ρ)⟩ else none
    |_,_=>none
   |none=>none
  |none=>none
def gL (E:Env) (fz:List Bool) (D:aH) (loop:Dq Res) (fn:Func) (c:Code) (as:List AV) (bs:List DV):Option Res:=
 bif as.length≤fn.ntmps&&wN E.pools&&(E.pools.isEmpty||Kc as bs) then mX E D loop c (st0 E.pools fn.ntmps as bs) (NK E fz fn.results.toList fn.resultTypes.toList bs.length) else none
end
inductive Sh where
 |p (t:Ty)
 |sd (t:Ty)
 |va (s:Nat) (t:Ty)
 |vs (s:Nat) (t:Ty) (pa:Path)
 |pb (s:Nat) (t:Ty) (pa:Path)
 |mp (s:Nat) (k v:Ty)
 |nil
 |nilp
 |clo (f:FuncId) (caps:List (Nat×Ty))
@[reducible] def Sh.den:Sh→Type
 | .p t=>t.den
 | .sd t=>t.den
 | .vs _ _ _=>Nat×Nat
 |_=>Unit
@[reducible] def ShX:List (Nat×Sh)→Type
 | []=>Unit
 |(_,s)::r=>s.den×ShX r
@[reducible] def BxX:List (Nat×Ty)→Type
 | []=>Unit
 |(_,t)::r=>t.den×BxX r
def Sh.inj:(s:Sh)→s.den→SV
 | .p t,x=> .p ⟨t,x⟩
 | .sd t,x=> .sd ⟨t,x⟩
 | .va s t,_=> .va s t
 | .vs s t pa,x=> .vs s t pa x.1 x.2
 | .pb s t pa,_=> .pb s t pa
 | .mp s k v,_=> .mp s k v
 | .nil,_=> .nil
 | .nilp,_=> .nilp
 | .clo f caps,_=> .clo f (caps.map fun c=> .pb c.1 c.2 [])
def IX:(sh:List (Nat×Sh))→ShX sh→Nat→SV
 | [],_,_=> .dead
 |(i,s)::r,x,j=>bif Nat.beq i j then s.inj x.1 else IX r x.2 j
def vF (sh:List (Nat×Sh)) (x:ShX sh):Nat→Nat→List SV
 |0,_=> []
 |n+1,i=>IX sh x i::vF sh x n (i+1)
def AO:(bx:List (Nat×Ty))→BxX bx→List (Nat×DV)
 | [],_=> []
 |(s,t)::r,y=>(s,⟨t,y.1⟩)::AO r y.2
def inj (n:Nat) (sh:List (Nat×Sh)) (bx:List (Nat×Ty)) (x:ShX sh) (y:BxX bx):St:=⟨vF sh x n 0,AO bx y⟩
def JK:Ty→Ty→List Nat
 | .pair a b,.pair c d=>JK a c++JK b d
 | .sl _,.vw s _=> [s]
 | .ref _,.pt s _ _=> [s]
 |_,_=> []
def coT (self:Nat):Ty→(t:Ty)→t.den→List Pm×DV
 | .pair a b,.pair c d,x=>((coT self a c x.1).1++(coT self b d x.2).1,⟨.pair (coT self a c x.1).2.1 (coT self b d x.2).2.1,((coT self a c x.1).2.2,(coT self b d x.2).2.2)⟩)
 | .sl _,.nsl t,_=>([],⟨.sl t,[]⟩)
 | .vw s _,.nsl t,_=>(kQ s ⟨.dyn t,(true,[])⟩,⟨.vw s t,()⟩)
 | .sf _ t pa,.slf,_=>([],⟨.sf self t pa,true⟩)
 | .dyn (.rid p u),.dyn (.sl v),x=>bif decide (u=v)&&x.2.isEmpty then ([],⟨.dyn (.rid p u),(x.1,[])⟩) else ([],⟨.dyn (.sl v),x⟩)
 |_,t,x=>([],⟨t,x⟩)
def vD (av:List Nat) (ps:List Pm):Bool:=nodupB (ps.flatMap Pm.tc)&&o9 (ps.flatMap Pm.tc) av&&ps.all fun p=>match p with
 | .kill s=>Nat.blt s 1000000
 | .ins _ ⟨.dyn t,_⟩=>t.plain
 |_=>false
def coS (st:St) (i:Nat):Sh→Option (List Pm)
 | .p t=>match st.slot i with
  | .p _=>some []
  |v=>(GN st (some t) v).map fun r=>r.1++ [.set i (.p r.2)]
 | .sd t=>match st.slot i with
  | .sd d=>match j5 Eo st (JK t d.1) with
   |some fs=>match (aN fs st).slot i with
    | .sd d=>bif vD (0::mentions d.1) (coT 0 t d.1 d.2).1 then some (fs++(coT 0 t d.1 d.2).1++ [.set i (.sd (coT 0 t d.1 d.2).2)]) else none
    |_=>none
   |none=>none
  |_=>none
 | .va b t=>match st.slot i with
  | .nil=>bif vD [] (kQ b ⟨.dyn t,(true,[])⟩) then some (kQ b ⟨.dyn t,(true,[])⟩++ [.set i (.va b t)]) else none
  |_=>some []
 | .vs b t _=>match st.slot i with
  | .nil=>bif vD [] (kQ b ⟨.dyn t,(true,[])⟩) then some (kQ b ⟨.dyn t,(true,[])⟩++ [.set i (.vs b t [] 0 0)]) else none
  | .va a u=>match st.box a with
   |some ⟨.dyn _,x⟩=>some [.set i (.vs a u [] 0 x.2.length)]
   |_=>some []
  |_=>some []
 |_=>some []
def QJ:St→List (Nat×Sh)→Option (List Pm)
 |_,[]=>some []
 |st,(i,s)::r=>match coS st i s with
  |some ps=>(QJ (aN ps st) r).map fun qs=>ps++qs
  |none=>none
abbrev Mt:=List (Nat×Nat)
def BP (m:Mt) (b:Nat):Option Nat:=(m.find? fun p=>Nat.beq p.2 b).map (·.1)
def Nl:Sh→SV→Mt
 | .va b _,.va a _=> [(a,b)]
 | .vs b _ _,.vs a _ _ _ _=> [(a,b)]
 | .pb b _ _,.pb a _ _=> [(a,b)]
 | .mp b _ _,.mp a _ _=> [(a,b)]
 | .clo _ caps,.clo _ cs=>(caps.zip cs).filterMap fun|(c,.pb a _ _)=>some (a,c.1)|_=>none
 | .sd t,.sd d=>pairTy t d.1
 |_,_=> []
where pairTy:Ty→Ty→Mt
 | .pair a b,.pair c d=>pairTy a c++pairTy b d
 | .arr _ a,.arr _ b=>pairTy a b
 | .sf b _ _,.sf a _ _=> [(a,b)]
 | .vw b _,.vw a _=> [(a,b)]
 | .pt b _ _,.pt a _ _=> [(a,b)]
 | .mp b _ _,.mp a _ _=> [(a,b)]
 | .rid b _,.rid a _=> [(a,b)]
 | .dyn a,.dyn b=>pairTy a b
 |_,_=> []
def QK:St→List (Nat×Ty)→Mt→Option (List Pm×Mt)
 |_,[],m=>some ([],m)
 |st,(b,t)::r,m=>match BP m b with
  |some a=>match st.box a with
   |some d=>match j5 Eo st (JK t d.1) with
    |some fs=>match (aN fs st).box a with
     |some d=>
      let q:=coT a t d.1 d.2
      let ps:=fs++q.1++ [.ins a q.2]
      bif vD (a::mentions d.1) q.1 then (QK (aN ps st) r (m++Nl.pairTy t q.2.1)).map fun z=>(ps++z.1,z.2) else none
     |none=>none
    |none=>none
   |none=>none
  |none=>none
def NC:Mt→Bool
 | []=>true
 |(a,b)::r=>(r.all fun p=>bif Nat.beq p.1 a then Nat.beq p.2 b else !Nat.beq p.2 b)&&(bif Nat.ble 1000000 b then Nat.beq a b else true)&&NC r
def Ai (m:Mt) (a:Nat):Nat:=match m.find? (fun p=>Nat.beq p.1 a) with|some p=>p.2|none=>900000+a
def inM (m:Mt) (a b:Nat):Bool:=m.any fun p=>Nat.beq p.1 a&&Nat.beq p.2 b
def allM (m:Mt) (t:Ty):Bool:=(mentions t).all fun s=>m.any fun p=>Nat.beq p.1 s
def rE (m:Mt):List SV→List (Nat×Ty)→Bool
 | [],[]=>true
 | .pb s t []::r,(s',t')::q=>inM m s s'&&decide (t=t')&&rE m r q
 |_,_=>false
def Sh.proj (m:Mt):(s:Sh)→SV→Option s.den
 | .p t,.p ⟨u,x⟩=>if h:u=t then some (h ▸ x) else none
 | .sd t,.sd d=>bif allM m d.1 then (match d.ren (Ai m) with|⟨u,x⟩=>if h:u=t then some (h ▸ x) else none) else none
 | .va b t,.va a u=>bif inM m a b&&decide (t=u) then some () else none
 | .vs b t pa,.vs a u qa lo n=>bif inM m a b&&decide (t=u)&&decide (pa=qa) then some (lo,n) else none
 | .pb b t pa,.pb a u qa=>bif inM m a b&&decide (t=u)&&decide (pa=qa) then some () else none
 | .mp b k v,.mp a k' v'=>bif inM m a b&&decide (k=k')&&decide (v=v') then some () else none
 | .nil,.nil=>some ()
 | .nilp,.nilp=>some ()
 | .clo f caps,.clo g cs=>bif Nat.beq f g&&rE m cs caps then some () else none
 |_,_=>none
def JV (m:Mt) (st:St):(sh:List (Nat×Sh))→Option (ShX sh)
 | []=>some ()
 |(i,s)::r=>match s.proj m (st.slot i),JV m st r with
  |some x,some y=>some (x,y)
  |_,_=>none
def JW (m:Mt) (st:St):(bx:List (Nat×Ty))→Option (BxX bx)
 | []=>some ()
 |(b,t)::r=>match (BP m b).bind st.box,JW m st r with
  |some d,some y=>bif allM m d.1 then (match d.ren (Ai m) with
   |⟨u,x⟩=>if h:u=t then some (h ▸ x,y) else none) else none
  |_,_=>none
def Co (st:St) (sh:List (Nat×Sh)) (bx ord:List (Nat×Ty)):Option (ShX sh×BxX bx):=
 match QJ st sh with
 |some ps=>
  let st:=aN ps st
  match QK st ord ((sh.flatMap fun p=>Nl p.2 (st.slot p.1))++(bx.filterMap fun p=>bif Nat.ble 999000 p.1 then some (p.1,p.1) else none)) with
  |some (qs,m)=>
   let st:=aN qs st
   bif NC m then
    match JV m st sh,JW m st bx with
    |some x,some y=>some (x,y)
    |_,_=>none
   else none
  |none=>none
 |none=>none
def rid:Code→Nat
 | .region id _ _=>id+1
 | .seq a b=>match rid a with|0=>rid b|n+1=>n+1
 | .cond _ a b=>match rid a with|0=>rid b|n+1=>n+1
 | .block _ a=>rid a
 | .loop a=>rid a
 | .scope a=>rid a
 |_=>0
inductive LE (R:Type) where
 |typed (L:St→(Ex→St→Option R)→Option R)
 |unroll (q:Nat)
def oD {α:Type}:List (Nat×α)→Nat→Option α
 | [],_=>none
 |(i,a)::r,n=>bif Nat.beq i n then some a else oD r n
def iG {R:Type} (E:Env) (D:aH) (tab:List (Nat×LE R)):Nat→Dq R
 |0=>fun _ _ _ _=>none
 |m+1=>fun _ body st k=>match oD tab (rid body) with
  |some (.typed L)=>L st k
  |some (.unroll q)=>Ke (fun st k=>mX E D (iG E D tab m) body st k) q st k
  |none=>Ke (fun st k=>mX E D (iG E D tab m) body st k) 64 st k
def eY {R:Type} (n:Nat) (sh:List (Nat×Sh)) (bx ord:List (Nat×Ty)) (shR:List (Nat×Sh)) (bxR:List (Nat×Ty)) (F:ShX sh→BxX bx→(Nat→ShX sh→BxX bx→Option R)→(ShX shR→BxX bxR→Option R)→Option R) (st:St) (k:Ex→St→Option R):Option R:=
 match Co st sh bx ord with
 |some (x,y)=>F x y (fun id x' y'=>k (.exit id) (inj n sh bx x' y')) (fun x' y'=>k .ret (inj n shR bxR x' y'))
 |none=>none
end Go.Own
namespace Go.Own
def Blk (w:World) (b:Nat) (e:TypeId) (cs:List Value):Prop:=
 ∃ (c:Array Value) (fr:Nat×Nat),w.heap[b]?=some (.cells c e fr)∧c.toList=cs∧∀ o,o<c.size→¬ (fr.1≤o∧o<fr.2)
def jc (w:World) (I:Nat→Prop) (tk:aU) (b:Nat) (e:TypeId) (o cap:Nat) (t:Ty) (l:List t.den):Prop:=
 ∃ cs,Blk w b e cs∧o+cap*t.size≤cs.length∧∀ i x,l[i]?=some x→∃ c,ai w I tk t x c∧∀ j v,c[j]?=some v→cs[o+i*t.size+j]?=some v
def Tq (w:World) (I:Nat→Prop) (tk:aU) (b:Nat) (k v:Ty) (l:List (k.den×v.den)):Prop:=
 ∃ (es:Array MapEntry) (clock:Nat),w.heap[b]?=some (.map es clock)∧k.Sm=true∧k.plain=true∧v.plain=true∧es.size=l.length∧
  ∀ (i:Nat) (e:MapEntry) (p:k.den×v.den),es[i]?=some e→l[i]?=some p→aA w I tk k p.1 e.key∧aA w I tk v p.2 e.val
def kK (w:World) (I:Nat→Prop) (tk:aU) (r:RTk) (t:Ty) (x:List t.den):Prop:=
 r.len=x.length∧x.length≤r.cap∧((r.blk=none∧r.cap=0)∨∃ b,r.blk=some b∧r.ad=some ⟨b,r.off,none⟩∧jc w I tk b r.tid r.off r.cap t x)
def Apart (t:Ty) (rows:List RTk) (l:List (Nat×List t.den)):Prop:=
 ∀ (k:Nat) (r:RTk) (f:Nat) (x:List t.den),rows[k]?=some r→l[k]?=some (f,x)→(f=3→r.blk=none)∧
  ∀ (k':Nat) (r':RTk) (b:Nat),rows[k']?=some r'→k'≠k→r.blk=some b→r'.blk=some b→f≠0∧(f≠2→(List.getD l k' (0,[])).1=2∧r'.off+r'.len*t.size≤r.off+r.len*t.size)
def aI (w:World) (I:Nat→Prop) (tk:aU) (q:Tk):DV→Prop
 |⟨.dyn t,x⟩=>q.ty= .dyn t.frz∧t.bL=false∧q.len=x.2.length∧x.2.length≤q.cap∧(x.1=true↔q.ad=none)∧
   ((q.blk=none∧q.cap=0)∨∃ b,q.blk=some b∧q.ad=some ⟨b,q.off,none⟩∧jc w I tk b q.tid q.off q.cap t x.2)
 |⟨.map k v,l⟩=>q.ty= .map k v∧∃ b,q.blk=some b∧Tq w I tk b k v l
 |⟨.pool t,l⟩=>q.ty= .pool t∧t.plain=true∧q.blk=none∧q.rows.length=l.length∧Apart t q.rows l∧
   ∀ (k:Nat) (r:RTk) (fx:Nat×List t.den),q.rows[k]?=some r→l[k]?=some fx→kK w I tk r t fx.2
 |d=>q.ty=d.1.frz∧q.off=0∧∃ b cs,q.blk=some b∧Blk w b q.tid cs∧ai w I tk d.1 d.2 cs
def ES (q:Tk) (t:Ty) (pa:Path) (lo n:Nat) (v:Value):Prop:=
 (pa= []∧q.ty= .dyn t∧(lo+n≤q.len∧q.len≤q.cap)∧∃ ad',v= .slice ad' n (q.cap - lo)∧(lo<q.cap→ad'=q.ad.map (·.add (lo*t.size)))∧(ad'=none↔q.ad=none))∨
 (∃ b off m,q.at pa=some (b,off,.arr m t)∧q.pin pa∧lo+n≤m∧∃ ad',v= .slice (some ad') n (m - lo)∧(lo<m→ad'=⟨b,off+lo*t.size,none⟩))
def dB (w:World) (I:Nat→Prop) (tk:aU):SV→Value→Prop
 | .p d,v=>d.1.plain=true∧aA w I tk d.1 d.2 v
 | .sd d,v=>d.1.bL=false∧aA w I tk d.1 d.2 v
 | .va s t,v=>∃ q,tk s=some q∧q.ty= .dyn t∧v=q.hdr
 | .vs s t pa lo n,v=>∃ q,tk s=some q∧ES q t pa lo n v
 | .pb s t pa,v=>mU tk s t pa v
 | .mp s k x,v=>∃ q b,tk s=some q∧q.ty= .map k x∧q.blk=some b∧v= .map (some b)
 | .ud s t,v=>∃ q,tk s=some q∧q.ty= .dyn t∧∃ p,v= .pointer p∧(0<q.len→p=q.ad)∧(q.ad=none→p=none)
 | .nil,v=>v= .slice none 0 0
 | .nilp,v=>v= .pointer none
 | .nilm,v=>v= .map none
 | .clo _ _,_=>False
 | .tup _,_=>False
 | .dead,_=>True
 | .und,v=>v=undef
def bf (w:World) (I:Nat→Prop) (tk:aU):SV→Value→Prop
 | .clo f caps,v=>∃ vs:Array Value,v= .func (.func f) #[] vs∧vs.size=caps.length∧∀ (j:Nat) (c:SV) (x:Value),caps[j]?=some c→vs[j]?=some x→dB w I tk c x
 | .tup l,v=>∃ vs:Array Value,v= .tuple vs∧vs.size=l.length∧∀ (j:Nat) (c:SV) (x:Value),l[j]?=some c→vs[j]?=some x→dB w I tk c x
 |s,v=>dB w I tk s v
structure Cx where
 P:Program
 w0:World
 I0:Nat→Prop
 xs:List Tk
def oG (P:Program) (q:Tk):Prop:=match q.ty with
 | .dyn t=>fO P q.tid t
 | .map _ _=>True
 | .pool t=>∀ r,r∈q.rows→r.blk≠none→fO P r.tid t
 |t=>fO P q.tid t
def St.srt (st:St):Prop:=(st.bx.map (·.1)).Pairwise (· < ·)
structure Inv (C:Cx) (st:St) (tm:Array Value) (w:World) (I:Nat→Prop) (tk:aU):Prop where
 len:st.sl.length=tm.size
 small:st.sl.length≤900000
 srt:st.srt
 slots:∀ i,i<st.sl.length→bf w I tk (st.slot i) (tm.getD i undef)
 boxes:∀ s d,st.box s=some d→∃ q,tk s=some q∧aI w I tk q d
 inj:∀ s s' q q' b,tk s=some q→tk s'=some q'→q.own b→q'.own b→s=s'
 tokLt:∀ s q b,tk s=some q→q.own b→b<w.heap.size
 tokI:∀ s q b,tk s=some q→q.own b→¬ I b
 tys:∀ s q b,tk s=some q→q.own b→oG C.P q
 ilt:∀ b,I b→b<w.heap.size
 fresh:∀ s q b,tk s=some q→q.own b→C.w0.heap.size≤b∨∃ (j:Nat) (q':Tk),C.xs[j]?=some q'∧q'.own b
 ext:∀ (j:Nat) (q:Tk),C.xs[j]?=some q→∀ d,st.box (site j)=some d→tk (site j)=some q
 keep:∀ b,b<C.w0.heap.size→(∀ (j:Nat) (q:Tk),C.xs[j]?=some q→¬ q.own b)→w.heap[b]?=C.w0.heap[b]?
 size:C.w0.heap.size≤w.heap.size
 os:w.os=C.w0.os
 output:w.output=C.w0.output
 tape:w.tape=C.w0.tape
 sub:∀ b,C.I0 b→I b
 new:∀ b,I b→C.I0 b∨C.w0.heap.size≤b∨∃ (j:Nat) (q:Tk),C.xs[j]?=some q∧q.own b
theorem Blk.of_block {w w':World} {b:Nat} {e:TypeId} {cs:List Value} (h:Blk w b e cs) (hb:w'.heap[b]?=w.heap[b]?):Blk w' b e cs:=by
 unfold Blk at *; rw [hb]; exact h
theorem jc.world {w w':World} {I I':Nat→Prop} {tk tk':aU} {b o cap:Nat} {e:TypeId} {t:Ty} {l:List t.den} (hI:∀ b,I b→I' b) (hw:∀ b,I b→w'.heap[b]?=w.heap[b]?) (ht:tk.le tk')
  (hb:w'.heap[b]?=w.heap[b]?) (h:jc w I tk b e o cap t l):jc w' I' tk' b e o cap t l:=by
 obtain ⟨cs,h1,h2,h3⟩:=h
 refine ⟨cs,h1.of_block hb,h2,fun i x hx=> ?_⟩
 obtain ⟨c,hc,hv⟩:=h3 i x hx
 exact ⟨c,hc.mono hI hw ht,hv⟩
theorem kK.world {w w':World} {I I':Nat→Prop} {tk tk':aU} {r:RTk} {t:Ty} {x:List t.den} (hI:∀ b,I b→I' b) (hw:∀ b,I b→w'.heap[b]?=w.heap[b]?) (ht:tk.le tk')
  (hb:∀ b,r.blk=some b→w'.heap[b]?=w.heap[b]?) (h:kK w I tk r t x):kK w' I' tk' r t x:=by
 obtain ⟨h1,h2,h3⟩:=h
 refine ⟨h1,h2,h3.imp id ?_⟩
 rintro ⟨b,e1,e2,e3⟩
 exact ⟨b,e1,e2,e3.world hI hw ht (hb b e1)⟩
theorem Tk.uT {q:Tk} {b:Nat} (hr:q.rows= []):q.own b↔q.blk=some b:=by
 unfold Tk.own; rw [hr]; simp
theorem Tk.uS {q:Tk} {k b:Nat} {r:RTk} (h:q.rows[k]?=some r) (hb:r.blk=some b):q.own b:= .inr ⟨r,List.mem_of_getElem? h,hb⟩
theorem aI.world {w w':World} {I I':Nat→Prop} {tk tk':aU} {q:Tk} {d:DV} (hI:∀ b,I b→I' b) (hw:∀ b,I b→w'.heap[b]?=w.heap[b]?) (ht:tk.le tk')
  (hb:∀ b,q.own b→w'.heap[b]?=w.heap[b]?) (h:aI w I tk q d):aI w' I' tk' q d:=by
 obtain ⟨t,x⟩:=d
 have str:(q.ty=t.frz∧q.off=0∧∃ b cs,q.blk=some b∧Blk w b q.tid cs∧ai w I tk t x cs)→(q.ty=t.frz∧q.off=0∧∃ b cs,q.blk=some b∧Blk w' b q.tid cs∧ai w' I' tk' t x cs):=by
  rintro ⟨h1,h2,b,cs,h3,h4,h5⟩
  exact ⟨h1,h2,b,cs,h3,h4.of_block (hb b (.inl h3)),h5.mono hI hw ht⟩
 cases t<;>simp only [aI] at h ⊢ <;>first|exact str h|skip
 ·obtain ⟨h1,hp,h2,h3,h4,h5⟩:=h
  refine ⟨h1,hp,h2,h3,h4,h5.imp id ?_⟩
  rintro ⟨b,e1,e2,e3⟩
  exact ⟨b,e1,e2,e3.world hI hw ht (hb b (.inl e1))⟩
 ·obtain ⟨h1,b,h2,es,clock,h3,h4,h5,h6,h7,h8⟩:=h
  exact ⟨h1,b,h2,es,clock,by rw [hb b (.inl h2)]; exact h3,h4,h5,h6,h7,fun i e p he hp=>⟨(h8 i e p he hp).1.mono hI hw ht,(h8 i e p he hp).2.mono hI hw ht⟩⟩
 ·obtain ⟨h1,h2,h3,h4,h5,h6⟩:=h
  exact ⟨h1,h2,h3,h4,h5,fun k r fx hk hx=>(h6 k r fx hk hx).world hI hw ht fun b e=>hb b (Tk.uS hk e)⟩
theorem dB.world {w w':World} {I I':Nat→Prop} {tk tk':aU} {s:SV} {v:Value} (hI:∀ b,I b→I' b) (hw:∀ b,I b→w'.heap[b]?=w.heap[b]?) (ht:tk.le tk')
  (h:dB w I tk s v):dB w' I' tk' s v:=by
 cases s with
 |p d=>exact ⟨h.1,h.2.mono hI hw ht⟩
 |sd d=>exact ⟨h.1,h.2.mono hI hw ht⟩
 |va s t=>obtain ⟨q,h1,h2⟩:=h; exact ⟨q,ht _ _ h1,h2⟩
 |vs s t pa lo n=>obtain ⟨q,h1,h2⟩:=h; exact ⟨q,ht _ _ h1,h2⟩
 |pb s t pa=>exact mU.mono ht h
 |mp s k v=>obtain ⟨q,b,h1,h2⟩:=h; exact ⟨q,b,ht _ _ h1,h2⟩
 |ud s t=>obtain ⟨q,h1,h2⟩:=h; exact ⟨q,ht _ _ h1,h2⟩
 |_=>exact h
theorem bf.world {w w':World} {I I':Nat→Prop} {tk tk':aU} {s:SV} {v:Value} (hI:∀ b,I b→I' b) (hw:∀ b,I b→w'.heap[b]?=w.heap[b]?) (ht:tk.le tk')
  (h:bf w I tk s v):bf w' I' tk' s v:=by
 cases s with
 |clo f caps=>obtain ⟨vs,e,hl,hc⟩:=h; exact ⟨vs,e,hl,fun j c x h1 h2=>(hc j c x h1 h2).world hI hw ht⟩
 |tup l=>obtain ⟨vs,e,hl,hc⟩:=h; exact ⟨vs,e,hl,fun j c x h1 h2=>(hc j c x h1 h2).world hI hw ht⟩
 |p d=>exact dB.world (s:= .p d) hI hw ht h
 |sd d=>exact dB.world (s:= .sd d) hI hw ht h
 |va s t=>exact dB.world (s:= .va s t) hI hw ht h
 |vs s t pa lo n=>exact dB.world (s:= .vs s t pa lo n) hI hw ht h
 |pb s t pa=>exact dB.world (s:= .pb s t pa) hI hw ht h
 |mp s k v=>exact dB.world (s:= .mp s k v) hI hw ht h
 |ud s t=>exact dB.world (s:= .ud s t) hI hw ht h
 |nil=>exact h
 |nilp=>exact h
 |nilm=>exact h
 |dead=>exact h
 |und=>exact h
structure lg (w w':World):Prop where
 block:∀ b,b<w.heap.size→w'.heap[b]?=w.heap[b]?
 size:w.heap.size≤w'.heap.size
 os:w'.os=w.os
 output:w'.output=w.output
 tape:w'.tape=w.tape
theorem lg.refl (w:World):lg w w:=⟨fun _ _=>rfl,Nat.le_refl _,rfl,rfl,rfl⟩
theorem lg.trans {a b c:World} (h:lg a b) (k:lg b c):lg a c:=
 ⟨fun x hx=>(k.block x (Nat.lt_of_lt_of_le hx h.size)).trans (h.block x hx),Nat.le_trans h.size k.size,k.os.trans h.os,k.output.trans h.output,k.tape.trans h.tape⟩
theorem lg.alloc (w:World) (o:Obj):lg w (w.alloc o):=
 ⟨fun b hb=>RowKit.Below.heap_alloc w o b hb,by simp,rfl,rfl,rfl⟩
theorem lg.drew (w:World):lg w w.drew:=⟨fun _ _=>rfl,Nat.le_refl _,rfl,rfl,rfl⟩
variable {C:Cx} {w w':World} {I I':Nat→Prop} {st:St} {tm:Array Value} {tk:aU}
theorem Inv.grow (h:Inv C st tm w I tk) (g:lg w w'):Inv C st tm w' I tk where
 len:=h.len
 small:=h.small
 srt:=h.srt
 slots:=fun i hi=>(h.slots i hi).world (fun _ hb=>hb) (fun b hb=>g.block b (h.ilt b hb)) (aU.le.refl _)
 boxes:=fun s d hs=>by
  obtain ⟨q,hq,hr⟩:=h.boxes s d hs
  exact ⟨q,hq,hr.world (fun _ hb=>hb) (fun b hb=>g.block b (h.ilt b hb)) (aU.le.refl _) fun b hb=>g.block b (h.tokLt _ _ b hq hb)⟩
 inj:=h.inj
 tokLt:=fun s q b h1 h2=>Nat.lt_of_lt_of_le (h.tokLt s q b h1 h2) g.size
 tokI:=h.tokI
 tys:=h.tys
 ilt:=fun b hb=>Nat.lt_of_lt_of_le (h.ilt b hb) g.size
 fresh:=h.fresh
 ext:=h.ext
 keep:=fun b hb hx=>(g.block b (Nat.lt_of_lt_of_le hb h.size)).trans (h.keep b hb hx)
 size:=Nat.le_trans h.size g.size
 os:=g.os.trans h.os
 output:=g.output.trans h.output
 tape:=g.tape.trans h.tape
 sub:=h.sub
 new:=h.new
theorem Fj (st:St) (d i:Nat) (v:SV) (hd:d<st.sl.length):({st with sl:=st.sl.set d v}:St).slot i=if i=d then v else st.slot i:=by
 unfold St.slot
 simp only [List.getD_eq_getElem?_getD,List.getElem?_set]
 by_cases h:d=i
 ·subst h; simp [hd]
 ·have h':¬ i=d:=fun e=>h e.symm
  simp [h,h']
theorem Fq (st:St) (bx:List (Nat×DV)) (f:SV→SV) (hf:f .dead= .dead) (i:Nat):(⟨st.sl.map f,bx⟩:St).slot i=f (st.slot i):=by
 unfold St.slot
 simp only [List.getD_eq_getElem?_getD,List.getElem?_map]
 cases st.sl[i]?<;>simp [hf]
theorem NV (tm:Array Value) (d i:Nat) (v:Value) (hd:d<tm.size):(tm.setIfInBounds d v).getD i undef=if i=d then v else tm.getD i undef:=by
 by_cases h:i=d
 ·subst h; simp [hd]
 ·have h':¬ d=i:=fun e=>h e.symm
  simp [Array.getElem?_setIfInBounds_ne h',h]
theorem Inv.put (h:Inv C st tm w I tk) {d:Nat} {s:SV} {v:Value} (hd:d<st.sl.length) (hs:bf w I tk s v):
  Inv C {st with sl:=st.sl.set d s} (tm.setIfInBounds d v) w I tk where
 len:=by simp [h.len]
 small:=by simpa using h.small
 srt:=h.srt
 slots:=fun i hi=>by
  rw [Fj st d i s hd,NV tm d i v (h.len ▸ hd)]
  split
  ·exact hs
  ·exact h.slots i (by simpa using hi)
 boxes:=h.boxes
 inj:=h.inj
 tokLt:=h.tokLt
 tokI:=h.tokI
 tys:=h.tys
 ilt:=h.ilt
 fresh:=h.fresh
 ext:=h.ext
 keep:=h.keep
 size:=h.size
 os:=h.os
 output:=h.output
 tape:=h.tape
 sub:=h.sub
 new:=h.new
end Go.Own
namespace Go.Own
variable {C:Cx} {w w':World} {I I':Nat→Prop} {st:St} {tm:Array Value} {tk tk':aU}
theorem nJ (s:Nat):∀ t:Ty,(t.kill s).size=t.size
 | .int _=>rfl
 | .bool=>rfl
 | .str=>rfl
 | .flt=>rfl
 | .unit=>rfl
 | .eos _=>rfl
 | .pair a b=>by simp only [Ty.kill,Ty.size,nJ s a,nJ s b]
 | .arr n t=>by simp only [Ty.kill,Ty.size,nJ s t]
 | .sl _=>rfl
 | .ref _=>rfl
 | .nif=>rfl
 | .slf=>rfl
 | .nsl _=>rfl
 | .sf r t pa=>by simp only [Ty.kill]; unfold kv; cases Nat.beq r s<;>rfl
 | .vw r t=>by simp only [Ty.kill]; unfold kv; cases Nat.beq r s<;>rfl
 | .pt r t pa=>by simp only [Ty.kill]; unfold kv; cases Nat.beq r s<;>rfl
 | .mp r k v=>by simp only [Ty.kill]; unfold kv; cases Nat.beq r s<;>rfl
 | .rid r t=>by simp only [Ty.kill]; unfold kv; cases Nat.beq r s<;>rfl
 | .junk _=>rfl
 | .dyn _=>rfl
 | .map _ _=>rfl
 | .pool _=>rfl
theorem lN (s:Nat):∀ t:Ty,(t.kill s).frz=t.frz
 | .int _=>rfl
 | .bool=>rfl
 | .str=>rfl
 | .flt=>rfl
 | .unit=>rfl
 | .eos _=>rfl
 | .pair a b=>by simp only [Ty.kill,Ty.frz,lN s a,lN s b]
 | .arr n t=>by simp only [Ty.kill,Ty.frz,lN s t]
 | .sl _=>rfl
 | .ref _=>rfl
 | .nif=>rfl
 | .slf=>rfl
 | .nsl _=>rfl
 | .sf r t pa=>by simp only [Ty.kill]; unfold kv; cases Nat.beq r s<;>rfl
 | .vw r t=>by simp only [Ty.kill]; unfold kv; cases Nat.beq r s<;>rfl
 | .pt r t pa=>by simp only [Ty.kill]; unfold kv; cases Nat.beq r s<;>rfl
 | .mp r k v=>by simp only [Ty.kill]; unfold kv; cases Nat.beq r s<;>rfl
 | .rid r t=>by simp only [Ty.kill]; unfold kv; cases Nat.beq r s<;>rfl
 | .junk _=>rfl
 | .dyn t=>by simp only [Ty.kill,Ty.frz,lN s t]
 | .map _ _=>rfl
 | .pool _=>rfl
theorem Lv (s:Nat) {t:Ty} (h:t.bL=false):(t.kill s).bL=false:=by
 have kvt:∀ (b:Bool) {u v:Ty},v.bL=false→(kv b u v).bL=false:=by
  intro b u v h
  cases b
  ·exact h
  ·rfl
 cases t<;>first|rfl|exact h|exact kvt _ rfl|cases h
theorem Ar (b:Bool) {u v:Ty} {x:v.den} {cs:List Value} (hs:u.size=v.size) (h:ai w I tk v x cs):ai w I tk (kv b u v) (kvX b u v x) cs:=by
 cases b
 ·exact h
 ·exact h.length.trans hs.symm
theorem ai.kill (s:Nat):∀ {t:Ty} {x:t.den} {cs:List Value},ai w I tk t x cs→ai w I tk (t.kill s) (jl s t x) cs:=by
 intro t
 induction t with
 |int k=>intro x cs h; exact h
 |bool=>intro x cs h; exact h
 |str=>intro x cs h; exact h
 |flt=>intro x cs h; exact h
 |unit=>intro x cs h; exact h
 |eos u=>intro x cs h; exact h
 |pair a b iha ihb=>
  intro x cs h
  obtain ⟨c1,c2,e,h1,h2⟩:=h
  exact ⟨c1,c2,e,iha h1,ihb h2⟩
 |arr n t ih=>
  intro x cs h
  obtain ⟨h1,h2,h3⟩:=h
  refine ⟨by rw [uW,List.length_map]; exact h1,by rw [nJ]; exact h2,fun i y hy=> ?_⟩
  rw [uW,List.getElem?_map] at hy
  cases hx:x[i]? with
  |none=>rw [hx] at hy; cases hy
  |some z=>
   rw [hx] at hy
   simp only [Option.map_some,Option.some.injEq] at hy
   subst hy
   rw [nJ]
   exact ih (h3 i z hx)
 |sl t ih=>intro x cs h; exact h
 |ref t ih=>intro x cs h; exact h
 |nif=>intro x cs h; exact h
 |slf=>intro x cs h; exact h
 |nsl t=>intro x cs h; exact h
 |sf r t pa=>intro x cs h; exact Ar (Nat.beq r s) (u:= .slf) (v:= .sf r t pa) rfl h
 |vw r t=>intro x cs h; exact Ar (Nat.beq r s) (u:= .sl t) (v:= .vw r t) rfl h
 |pt r t pa=>intro x cs h; exact Ar (Nat.beq r s) (u:= .ref t) (v:= .pt r t pa) rfl h
 |mp r k v=>intro x cs h; exact Ar (Nat.beq r s) (u:= .mp 0 k v) (v:= .mp r k v) rfl h
 |rid r t=>intro x cs h; exact Ar (Nat.beq r s) (u:= .sl t) (v:= .rid r t) rfl h
 |junk t=>intro x cs h; exact h
 |dyn t=>intro x cs h; exact h
 |map k v=>intro x cs h; exact h
 |pool t=>intro x cs h; exact h
theorem aI.str {q:Tk} {t:Ty} {x:t.den} (ht:t.bL=false):aI w I tk q ⟨t,x⟩↔(q.ty=t.frz∧q.off=0∧∃ b cs,q.blk=some b∧Blk w b q.tid cs∧ai w I tk t x cs):=by
 cases t<;>first|exact Iff.rfl|cases ht
theorem aI.np {q:Tk} {d:DV} (h:aI w I tk q d) (hp:d.1.fD=false):q.ty.fD=false:=by
 obtain ⟨t,x⟩:=d
 cases ht:t.bL with
 |true=>
  cases t<;>first|cases ht; done|skip
  ·rw [h.1]; rfl
  ·rw [h.1]; rfl
  ·cases hp
 |false=>rw [((aI.str ht).1 h).1]; exact Ty.NZ hp
theorem Sw (b:Bool) {u v:Ty} (h:v.bL=false):(kv b u v).bL=false:=by
 cases b
 ·exact h
 ·rfl
theorem Gl (s:Nat) {t:Ty} (h:t.bL=false):(t.kill s).bL=false:=by
 cases t<;>first|rfl|exact h|exact Sw _ rfl
theorem aI.kill (s:Nat) {q:Tk} {d:DV} (h:aI w I tk q d):aI w I tk q (d.kill s):=by
 obtain ⟨t,x⟩:=d
 cases ht:t.bL with
 |true=>
  cases t<;>first|cases ht; done|skip
  ·obtain ⟨h1,hp,h2,h3,h4,h5⟩:=h
   simp only [DV.kill,xZ]
   refine ⟨by simp only [aI,Go.Own.lN]; exact h1,Lv s hp,by simpa using h2,by simpa using h3,h4,h5.imp id ?_⟩
   rintro ⟨b,e1,e2,cs,e3,e4,e5⟩
   refine ⟨b,e1,e2,cs,e3,by rw [nJ]; exact e4,fun i y hy=> ?_⟩
   rw [List.getElem?_map] at hy
   obtain ⟨z,hz,rfl⟩:=Option.map_eq_some_iff.1 hy
   obtain ⟨c,hc,hv⟩:=e5 i z hz
   exact ⟨c,hc.kill s,by rw [nJ]; exact hv⟩
  ·exact h
  ·exact h
 |false=>
  obtain ⟨h1,h2,b,cs,h3,h4,h5⟩:=(aI.str ht).1 h
  exact (aI.str (Gl s ht)).2 ⟨by rw [lN]; exact h1,h2,b,cs,h3,h4,h5.kill s⟩
theorem bf.of1 {v:SV} {x:Value} (h:dB w I tk v x):bf w I tk v x:=by
 cases v<;>first|exact h|exact h.elim
theorem DV.lN (s:Nat) (d:DV):(d.kill s).1.frz=d.1.frz:=Go.Own.lN s d.1
theorem jb {t u:Ty} (h:t.frz=u.frz):t.isAgg=u.isAgg:=by rw [← Ty.mr t,h,Ty.mr]
theorem aA.kill (s:Nat) {d:DV} {v:Value} (h:aA w I tk d.1 d.2 v):aA w I tk (d.kill s).1 (d.kill s).2 v:=by
 unfold aA at*
 have ha:(d.kill s).1.isAgg=d.1.isAgg:=jb (DV.lN s d)
 rw [ha]
 split
 ·rename_i ht
  simp only [ht,if_true] at h
  obtain ⟨cs,e,h⟩:=h
  exact ⟨cs,e,h.kill s⟩
 ·rename_i ht
  simp only [ht] at h
  exact ai.kill s h
theorem dB.kill (s:Nat) {v:SV} {x:Value} (h:dB w I tk v x):dB w I tk (v.eu s) x:=by
 cases v with
 |sd d=>simp only [SV.eu,DV.jZ]; exact ⟨Gl s h.1,h.2.kill s⟩
 |va r t=>simp only [SV.eu]; cases Nat.beq r s<;>first|exact h|exact trivial
 |vs r t pa lo n=>simp only [SV.eu]; cases Nat.beq r s<;>first|exact h|exact trivial
 |pb r t pa=>simp only [SV.eu]; cases Nat.beq r s<;>first|exact h|exact trivial
 |mp r k x=>simp only [SV.eu]; cases Nat.beq r s<;>first|exact h|exact trivial
 |ud r t=>simp only [SV.eu]; cases Nat.beq r s<;>first|exact h|exact trivial
 |_=>exact h
theorem CQ {l:List SV} {vs:Array Value} (s:Nat) (hc:∀ (j:Nat) (c:SV) (x:Value),l[j]?=some c→vs[j]?=some x→dB w I tk c x):
  ∀ (j:Nat) (c:SV) (x:Value),(l.map (SV.eu s))[j]?=some c→vs[j]?=some x→dB w I tk c x:=by
 intro j c y h1 h2
 rw [List.getElem?_map] at h1
 cases hj:l[j]? with
 |none=>rw [hj] at h1; cases h1
 |some c0=>rw [hj] at h1; simp only [Option.map_some,Option.some.injEq] at h1; subst h1; exact (hc j c0 y hj h2).kill s
def SV.jL:SV→Bool
 | .clo _ _=>false
 | .tup _=>false
 |_=>true
theorem bf.one {v:SV} {x:Value} (hv:v.jL=true):bf w I tk v x↔dB w I tk v x:=by
 cases v<;>first|exact Iff.rfl|cases hv
theorem oz {v:SV} (hv:v.jL=true) (s:Nat):v.kill s=v.eu s:=by
 cases v<;>first|rfl|cases hv
theorem bf.kill (s:Nat) {v:SV} {x:Value} (h:bf w I tk v x):bf w I tk (v.kill s) x:=by
 cases hv:v.jL with
 |true=>rw [oz hv]; exact bf.of1 (((bf.one hv).1 h).kill s)
 |false=>
  cases v with
  |clo f caps=>obtain ⟨vs,e,hl,hc⟩:=h; exact ⟨vs,e,by simpa using hl,CQ s hc⟩
  |tup l=>obtain ⟨vs,e,hl,hc⟩:=h; exact ⟨vs,e,by simpa using hl,CQ s hc⟩
  |_=>cases hv
theorem yh (f:DV→DV) (s:Nat):∀ l:List (Nat×DV),eB (l.map fun x=>(x.1,f x.2)) s=(eB l s).map f
 | []=>rfl
 |(i,a)::r=>by
  simp only [List.map_cons,eB]
  cases Nat.beq i s
  ·exact yh f s r
  ·rfl
theorem ng (s r:Nat) (st:St):(st.kill s).box r=(st.box r).map (DV.kill s):=(yh (DV.yT s) r st.bx).trans (by rw [show DV.yT s=DV.kill s from funext (DV.jZ s)]; rfl)
theorem nE (s i:Nat) (st:St):(st.kill s).slot i=(st.slot i).kill s:=Fq st _ (SV.kill s) rfl i
theorem Inv.kill (h:Inv C st tm w I tk) (s:Nat):Inv C (st.kill s) tm w I tk where
 len:=by simpa [St.kill] using h.len
 small:=by simpa [St.kill] using h.small
 srt:=by have:=h.srt; unfold St.srt at *; simpa [St.kill,List.map_map,Function.comp_def] using this
 slots:=fun i hi=>by rw [nE]; exact (h.slots i (by simpa [St.kill] using hi)).kill s
 boxes:=fun r d hr=>by
  rw [ng] at hr
  cases hb:st.box r with
  |none=>rw [hb] at hr; cases hr
  |some d0=>
   rw [hb] at hr
   simp only [Option.map_some,Option.some.injEq] at hr
   subst hr
   obtain ⟨q,hq,hd⟩:=h.boxes r d0 hb
   exact ⟨q,hq,hd.kill s⟩
 inj:=h.inj
 tokLt:=h.tokLt
 tokI:=h.tokI
 tys:=h.tys
 ilt:=h.ilt
 fresh:=h.fresh
 ext:=fun j q hj d hd=>by
  rw [ng] at hd
  cases hb:st.box (site j) with
  |none=>rw [hb] at hd; cases hd
  |some d0=>exact h.ext j q hj d0 hb
 keep:=h.keep
 size:=h.size
 os:=h.os
 output:=h.output
 tape:=h.tape
 sub:=h.sub
 new:=h.new
end Go.Own
namespace Go.Own
variable {C:Cx} {w w':World} {I I':Nat→Prop} {st:St} {tm:Array Value} {tk tk':aU}
theorem beq_iff {a b:Nat}:Nat.beq a b=true↔a=b:=by rw [Nat.beq_eq]
theorem eP {a b:Nat}:Nat.beq a b=false↔a≠b:=by
 cases h:Nat.beq a b
 ·simp; intro e; rw [beq_iff.2 e] at h; cases h
 ·simp [beq_iff.1 h]
theorem AZ (s r:Nat) (d:DV):∀ l:List (Nat×DV),eB (sM s d l) r=if r=s then some d else eB l r
 | []=>by
  simp only [sM,eB]
  cases h:Nat.beq s r
  ·rw [if_neg (fun e=>eP.1 h e.symm)]; rfl
  ·rw [if_pos (beq_iff.1 h).symm]; rfl
 |(i,a)::l=>by
  simp only [sM]
  cases h1:Nat.beq i s
  ·simp only [cond_false]
   cases h2:Nat.blt s i
   ·simp only [cond_false,eB]
    cases h3:Nat.beq i r
    ·simp only [cond_false]; exact AZ s r d l
    ·simp only [cond_true]
     rw [if_neg (fun e=>eP.1 h1 ((beq_iff.1 h3).trans e))]
   ·simp only [cond_true,eB]
    cases h:Nat.beq s r
    ·simp only [cond_false]; rw [if_neg (fun e=>eP.1 h e.symm)]
    ·simp only [cond_true]; rw [if_pos (beq_iff.1 h).symm]
  ·simp only [cond_true,eB]
   have e1:=beq_iff.1 h1
   cases h:Nat.beq s r
   ·simp only [cond_false]
    rw [if_neg (fun e=>eP.1 h e.symm)]
    have:Nat.beq i r=false:=by rw [e1]; exact h
    rw [this]; rfl
   ·simp only [cond_true]; rw [if_pos (beq_iff.1 h).symm]
theorem iE (st:St) (s r:Nat) (d:DV):(st.gI s d).box r=if r=s then some d else st.box r:=AZ s r d st.bx
theorem vZ (s r:Nat):∀ l:List (Nat×DV),eB (Be s l) r=if r=s then none else eB l r
 | []=>by simp [Be,eB]
 |(i,a)::l=>by
  have ih:=vZ s r l
  unfold Be at ih ⊢
  rw [List.filter_cons]
  cases h1:Nat.beq i s
  ·simp only [Bool.not_false,if_true,eB]
   cases h3:Nat.beq i r
   ·simp only [cond_false]; exact ih
   ·simp only [cond_true]; rw [if_neg (fun e=>eP.1 h1 ((beq_iff.1 h3).trans e))]
  ·simp only [Bool.not_true,Bool.false_eq_true,if_false,eB]
   rw [ih]
   by_cases hr:r=s
   ·simp [hr]
   ·rw [if_neg hr,if_neg hr,eP.2 (fun e=>hr (e.symm.trans (beq_iff.1 h1)))]; rfl
theorem og (st:St) (s r:Nat):(⟨st.sl,Be s st.bx⟩:St).box r=if r=s then none else st.box r:=vZ s r st.bx
theorem CS (s:Nat) (d:DV):∀ l:List (Nat×DV),(l.map (·.1)).Pairwise (· < ·)→((sM s d l).map (·.1)).Pairwise (· < ·)∧∀ x∈(sM s d l).map (·.1),x=s∨x∈l.map (·.1)
 | [],_=>by simp [sM]
 |(i,a)::l,h=>by
  simp only [List.map_cons,List.pairwise_cons] at h
  obtain ⟨ih1,ih2⟩:=CS s d l h.2
  simp only [sM]
  cases h1:Nat.beq i s
  ·simp only [cond_false]
   cases h2:Nat.blt s i
   ·simp only [cond_false,List.map_cons,List.pairwise_cons]
    have h3:i<s:=by
     have h4:=eP.1 h1
     have h5:¬ s<i:=fun hlt=>by have:Nat.blt s i=true:=Nat.ble_eq_true_of_le hlt; rw [this] at h2; cases h2
     omega
    refine ⟨⟨fun x hx=> ?_,ih1⟩,fun x hx=> ?_⟩
    ·rcases ih2 x hx with rfl|hx
     ·exact h3
     ·exact h.1 x hx
    ·rcases List.mem_cons.1 hx with rfl|hx
     ·right; simp
     ·exact (ih2 x hx).imp id fun h=>List.mem_cons_of_mem _ h
   ·have h3:s<i:=Nat.le_of_ble_eq_true h2
    simp only [cond_true,List.map_cons,List.pairwise_cons]
    refine ⟨⟨fun x hx=> ?_,h.1,h.2⟩,fun x hx=> ?_⟩
    ·rcases List.mem_cons.1 hx with rfl|hx
     ·exact h3
     ·exact Nat.lt_trans h3 (h.1 x hx)
    ·rcases List.mem_cons.1 hx with rfl|hx
     ·exact .inl rfl
     ·exact .inr hx
  ·have e:=beq_iff.1 h1
   simp only [cond_true,List.map_cons,List.pairwise_cons]
   refine ⟨⟨fun x hx=> ?_,h.2⟩,fun x hx=> ?_⟩
   ·rw [← e]; exact h.1 x hx
   ·rcases List.mem_cons.1 hx with rfl|hx
    ·exact .inl rfl
    ·exact .inr (List.mem_cons_of_mem _ hx)
theorem nD {st:St} (h:st.srt) (s:Nat) (d:DV):(st.gI s d).srt:=(CS s d st.bx h).1
theorem Dx {l l':List (Nat×DV)} (h:(l.map (·.1)).Pairwise (· < ·)) (hs:l'.Sublist l):(l'.map (·.1)).Pairwise (· < ·):=h.sublist (hs.map _)
theorem Dy {st:St} (h:st.srt) (s:Nat):St.srt ⟨st.sl,Be s st.bx⟩:=Dx h List.filter_sublist
def St.free (st:St) (s:Nat):Prop:=(∀ i,i<st.sl.length→s∉(st.slot i).dO)∧∀ r d,r≠s→st.box r=some d→s∉mentions d.1
theorem Gj (b:Bool) {u v:Ty} {s:Nat} (h:b=false→s∉mentions v):s∉mentions (kv b u v):=by
 cases b
 ·exact h rfl
 ·simp [kv,mentions]
theorem gJ (s:Nat):∀ t:Ty,s∉mentions (t.kill s)
 | .int _=>by simp [Ty.kill,mentions]
 | .bool=>by simp [Ty.kill,mentions]
 | .str=>by simp [Ty.kill,mentions]
 | .flt=>by simp [Ty.kill,mentions]
 | .unit=>by simp [Ty.kill,mentions]
 | .eos _=>by simp [Ty.kill,mentions]
 | .pair a b=>by
  simp only [Ty.kill,mentions,List.mem_append,not_or]
  exact ⟨gJ s a,gJ s b⟩
 | .arr n t=>gJ s t
 | .sl _=>by simp [Ty.kill,mentions]
 | .ref _=>by simp [Ty.kill,mentions]
 | .nif=>by simp [Ty.kill,mentions]
 | .slf=>by simp [Ty.kill,mentions]
 | .nsl _=>by simp [Ty.kill,mentions]
 | .sf r t pa=>Gj _ fun h=>by simp only [mentions,List.mem_singleton]; exact fun e=>eP.1 h e.symm
 | .vw r t=>Gj _ fun h=>by simp only [mentions,List.mem_singleton]; exact fun e=>eP.1 h e.symm
 | .pt r t pa=>Gj _ fun h=>by simp only [mentions,List.mem_singleton]; exact fun e=>eP.1 h e.symm
 | .mp r k v=>Gj _ fun h=>by simp only [mentions,List.mem_singleton]; exact fun e=>eP.1 h e.symm
 | .rid r t=>Gj _ fun h=>by simp only [mentions,List.mem_singleton]; exact fun e=>eP.1 h e.symm
 | .junk _=>by simp [Ty.kill,mentions]
 | .dyn t=>gJ s t
 | .map _ _=>by simp [Ty.kill,mentions]
 | .pool _=>by simp [Ty.kill,mentions]
theorem Gm (s:Nat) (v:SV):s∉(v.eu s).sites:=by
 cases v with
 |sd d=>simp only [SV.eu,DV.jZ]; exact gJ s d.1
 |va r t=>simp only [SV.eu]; cases h:Nat.beq r s<;>simp only [cond_true,cond_false,SV.sites,List.not_mem_nil,not_false_eq_true,List.mem_singleton]; exact fun e=>eP.1 h e.symm
 |vs r t pa lo n=>simp only [SV.eu]; cases h:Nat.beq r s<;>simp only [cond_true,cond_false,SV.sites,List.not_mem_nil,not_false_eq_true,List.mem_singleton]; exact fun e=>eP.1 h e.symm
 |pb r t pa=>simp only [SV.eu]; cases h:Nat.beq r s<;>simp only [cond_true,cond_false,SV.sites,List.not_mem_nil,not_false_eq_true,List.mem_singleton]; exact fun e=>eP.1 h e.symm
 |mp r k x=>simp only [SV.eu]; cases h:Nat.beq r s<;>simp only [cond_true,cond_false,SV.sites,List.not_mem_nil,not_false_eq_true,List.mem_singleton]; exact fun e=>eP.1 h e.symm
 |ud r t=>simp only [SV.eu]; cases h:Nat.beq r s<;>simp only [cond_true,cond_false,SV.sites,List.not_mem_nil,not_false_eq_true,List.mem_singleton]; exact fun e=>eP.1 h e.symm
 |_=>simp [SV.eu,SV.sites]
theorem jk {v:SV} (hv:v.jL=true):v.dO=v.sites:=by cases v<;>first|rfl|cases hv
theorem uX {v:SV} (hv:v.jL=true) (s:Nat):(v.eu s).jL=true:=by
 cases v<;>first|rfl|cases hv; done|(simp only [SV.eu]; cases Nat.beq _ s<;>rfl)
theorem Ed (s:Nat) (v:SV):s∉(v.kill s).dO:=by
 have flat:∀ l:List SV,s∉(l.map (SV.eu s)).flatMap SV.sites:=by
  intro l h
  rw [List.mem_flatMap] at h
  obtain ⟨a,ha,hs⟩:=h
  rw [List.mem_map] at ha
  obtain ⟨b,_,rfl⟩:=ha
  exact Gm s b hs
 cases hv:v.jL with
 |true=>rw [oz hv,jk (uX hv s)]; exact Gm s v
 |false=>
  cases v with
  |clo f caps=>exact flat caps
  |tup l=>exact flat l
  |_=>cases hv
theorem pE (st:St) (s:Nat):(st.kill s).free s:=by
 refine ⟨fun i _=>by rw [nE]; exact Ed s _,fun r d _ hr=> ?_⟩
 rw [ng] at hr
 cases hb:st.box r with
 |none=>rw [hb] at hr; cases hr
 |some d0=>
  rw [hb] at hr
  simp only [Option.map_some,Option.some.injEq] at hr
  subst hr
  exact gJ s d0.1
theorem aA.congr {d:DV} {v:Value} (hm:∀ s,s∈mentions d.1→tk' s=tk s) (h:aA w I tk d.1 d.2 v):aA w I tk' d.1 d.2 v:=by
 unfold aA at*
 split
 ·rename_i ht
  simp only [ht,if_true] at h
  obtain ⟨cs,e,h⟩:=h
  exact ⟨cs,e,h.congr hm⟩
 ·rename_i ht
  simp only [ht] at h
  exact ai.congr hm h
theorem aA.plain {d:DV} {v:Value} (hp:d.1.plain=true) (h:aA w I tk d.1 d.2 v):aA w I tk' d.1 d.2 v:=by
 unfold aA at*
 split
 ·rename_i ht
  simp only [ht,if_true] at h
  obtain ⟨cs,e,h⟩:=h
  exact ⟨cs,e,h.plain hp⟩
 ·rename_i ht
  simp only [ht] at h
  exact ai.plain hp h
theorem dB.congr {v:SV} {x:Value} (hm:∀ s,s∈v.sites→tk' s=tk s) (h:dB w I tk v x):dB w I tk' v x:=by
 cases v with
 |p d=>exact ⟨h.1,h.2.plain h.1⟩
 |sd d=>exact ⟨h.1,h.2.congr hm⟩
 |va s t=>obtain ⟨q,h1,h2⟩:=h; exact ⟨q,(hm _ (by simp [SV.sites])).trans h1,h2⟩
 |vs s t pa lo n=>obtain ⟨q,h1,h2⟩:=h; exact ⟨q,(hm _ (by simp [SV.sites])).trans h1,h2⟩
 |pb s t pa=>obtain ⟨k,b,off,h1,h2⟩:=h; exact ⟨k,b,off,(hm _ (by simp [SV.sites])).trans h1,h2⟩
 |mp s k v=>obtain ⟨q,b,h1,h2⟩:=h; exact ⟨q,b,(hm _ (by simp [SV.sites])).trans h1,h2⟩
 |ud s t=>obtain ⟨q,h1,h2⟩:=h; exact ⟨q,(hm _ (by simp [SV.sites])).trans h1,h2⟩
 |_=>exact h
theorem bf.congr {v:SV} {x:Value} (hm:∀ s,s∈v.dO→tk' s=tk s) (h:bf w I tk v x):bf w I tk' v x:=by
 have all:∀ {l:List SV} {vs:Array Value},(∀ s,s∈l.flatMap SV.sites→tk' s=tk s)→(∀ (j:Nat) (c:SV) (x:Value),l[j]?=some c→vs[j]?=some x→dB w I tk c x)→
   ∀ (j:Nat) (c:SV) (x:Value),l[j]?=some c→vs[j]?=some x→dB w I tk' c x:=by
  intro l vs h1 h2 j c x h3 h4
  exact (h2 j c x h3 h4).congr fun s hs=>h1 s (List.mem_flatMap.2 ⟨c,List.mem_of_getElem? h3,hs⟩)
 cases hv:v.jL with
 |true=>exact bf.of1 (((bf.one hv).1 h).congr (by rw [← jk hv]; exact hm))
 |false=>
  cases v with
  |clo f caps=>obtain ⟨vs,e,hl,hc⟩:=h; exact ⟨vs,e,hl,all hm hc⟩
  |tup l=>obtain ⟨vs,e,hl,hc⟩:=h; exact ⟨vs,e,hl,all hm hc⟩
  |_=>cases hv
theorem jc.plain {b o cap:Nat} {e:TypeId} {t:Ty} {l:List t.den} (hp:t.plain=true) (h:jc w I tk b e o cap t l):jc w I tk' b e o cap t l:=by
 obtain ⟨cs,h1,h2,h3⟩:=h
 refine ⟨cs,h1,h2,fun i x hx=> ?_⟩
 obtain ⟨c,hc,hv⟩:=h3 i x hx
 exact ⟨c,hc.plain hp,hv⟩
theorem jc.congr {b o cap:Nat} {e:TypeId} {t:Ty} {l:List t.den} (hm:∀ s,s∈mentions t→tk' s=tk s) (h:jc w I tk b e o cap t l):jc w I tk' b e o cap t l:=by
 obtain ⟨cs,h1,h2,h3⟩:=h
 refine ⟨cs,h1,h2,fun i x hx=> ?_⟩
 obtain ⟨c,hc,hv⟩:=h3 i x hx
 exact ⟨c,hc.congr hm,hv⟩
theorem kK.plain {r:RTk} {t:Ty} {x:List t.den} (hp:t.plain=true) (h:kK w I tk r t x):kK w I tk' r t x:=by
 obtain ⟨h1,h2,h3⟩:=h
 refine ⟨h1,h2,h3.imp id ?_⟩
 rintro ⟨b,e1,e2,e3⟩
 exact ⟨b,e1,e2,e3.plain hp⟩
theorem aI.congr {q:Tk} {d:DV} (hm:∀ s,s∈mentions d.1→tk' s=tk s) (h:aI w I tk q d):aI w I tk' q d:=by
 obtain ⟨t,x⟩:=d
 cases ht:t.bL with
 |true=>
  cases t<;>first|cases ht; done|skip
  ·obtain ⟨h1,hp,h2,h3,h4,h5⟩:=h
   refine ⟨h1,hp,h2,h3,h4,h5.imp id ?_⟩
   rintro ⟨b,e1,e2,e3⟩
   exact ⟨b,e1,e2,e3.congr hm⟩
  ·obtain ⟨h1,b,h2,es,clock,h3,h4,h5,h6,h7,h8⟩:=h
   exact ⟨h1,b,h2,es,clock,h3,h4,h5,h6,h7,fun i e p he hp=>⟨aA.plain (d:=⟨_,p.1⟩) h5 (h8 i e p he hp).1,aA.plain (d:=⟨_,p.2⟩) h6 (h8 i e p he hp).2⟩⟩
  ·obtain ⟨h1,h2,h3,h4,h5,h6⟩:=h
   exact ⟨h1,h2,h3,h4,h5,fun k r fx hk hx=>(h6 k r fx hk hx).plain h2⟩
 |false=>
  obtain ⟨h1,h2,b,cs,h3,h4,h5⟩:=(aI.str ht).1 h
  exact (aI.str ht).2 ⟨h1,h2,b,cs,h3,h4,h5.congr hm⟩
def aU.upd (tk:aU) (s:Nat) (q:Tk):aU:=fun r=>if r=s then some q else tk r
theorem upd_same (tk:aU) (s:Nat) (q:Tk):tk.upd s q s=some q:=if_pos rfl
theorem ko (tk:aU) (s:Nat) (q:Tk) {r:Nat} (h:r≠s):tk.upd s q r=tk r:=if_neg h
theorem Inv.xW (h:Inv C st tm w I tk) {s:Nat} (hs:∀ j,s≠site j) (hf:st.free s) {d:DV} {q:Tk} (hno:s∉mentions d.1)
  (hq:∀ b,q.own b→(C.w0.heap.size≤b∨∃ (j:Nat) (q':Tk),C.xs[j]?=some q'∧q'.own b)∧b<w.heap.size∧¬ I b∧∀ s' q',s'≠s→tk s'=some q'→¬ q'.own b) (hty:∀ b,q.own b→oG C.P q) (hd:aI w I tk q d):
  Inv C (st.gI s d) tm w I (tk.upd s q) where
 len:=h.len
 small:=h.small
 srt:=nD h.srt s d
 slots:=fun i hi=>(h.slots i hi).congr fun r hr=>ko _ _ _ fun e=>hf.1 i hi (e ▸ hr)
 boxes:=fun r e hr=>by
  rw [iE] at hr
  by_cases hrs:r=s
  ·rw [if_pos hrs] at hr
   cases hr
   exact ⟨q,hrs ▸ upd_same tk s q,hd.congr fun p hp=>ko _ _ _ fun e=>hno (e ▸ hp)⟩
  ·rw [if_neg hrs] at hr
   obtain ⟨q',h1,h2⟩:=h.boxes r e hr
   exact ⟨q',(ko _ _ _ hrs).trans h1,h2.congr fun p hp=>ko _ _ _ fun e=>hf.2 r _ hrs hr (e ▸ hp)⟩
 inj:=fun a b qa qb k h1 h2 h3 h4=>by
  unfold aU.upd at h1 h2
  split at h1<;>split at h2
  ·rename_i e1 e2; rw [e1,e2]
  ·rename_i e1 e2; cases h1; exact absurd h4 ((hq k h3).2.2.2 b qb e2 h2)
  ·rename_i e1 e2; cases h2; exact absurd h3 ((hq k h4).2.2.2 a qa e1 h1)
  ·exact h.inj a b qa qb k h1 h2 h3 h4
 tokLt:=fun a qa b h1 h2=>by
  unfold aU.upd at h1
  split at h1
  ·cases h1; exact (hq b h2).2.1
  ·exact h.tokLt a qa b h1 h2
 tokI:=fun a qa b h1 h2=>by
  unfold aU.upd at h1
  split at h1
  ·cases h1; exact (hq b h2).2.2.1
  ·exact h.tokI a qa b h1 h2
 tys:=fun a qa b h1 h2=>by
  unfold aU.upd at h1
  split at h1
  ·cases h1; exact hty b h2
  ·exact h.tys a qa b h1 h2
 ilt:=h.ilt
 fresh:=fun a qa b h1 h2=>by
  unfold aU.upd at h1
  split at h1
  ·cases h1; exact (hq b h2).1
  ·exact h.fresh a qa b h1 h2
 ext:=fun j q' hj e he=>by
  have hne:site j≠s:=fun e=>hs j e.symm
  rw [iE,if_neg hne] at he
  exact (ko _ _ _ hne).trans (h.ext j q' hj e he)
 keep:=h.keep
 size:=h.size
 os:=h.os
 output:=h.output
 tape:=h.tape
 sub:=h.sub
 new:=h.new
theorem Inv.Ot (h:Inv C st tm w I tk) (s:Nat):Inv C ⟨st.sl,Be s st.bx⟩ tm w I tk where
 len:=h.len
 small:=h.small
 srt:=Dy h.srt s
 slots:=h.slots
 boxes:=fun r e hr=>by
  rw [og] at hr
  split at hr
  ·cases hr
  ·exact h.boxes r e hr
 inj:=h.inj
 tokLt:=h.tokLt
 tokI:=h.tokI
 tys:=h.tys
 ilt:=h.ilt
 fresh:=h.fresh
 ext:=fun j q' hj e he=>by
  rw [og] at he
  split at he
  ·cases he
  ·exact h.ext j q' hj e he
 keep:=h.keep
 size:=h.size
 os:=h.os
 output:=h.output
 tape:=h.tape
 sub:=h.sub
 new:=h.new
end Go.Own
namespace Go.Own
variable {C:Cx} {w w':World} {I I':Nat→Prop} {st:St} {tm:Array Value} {tk tk':aU}
structure Wrote (b:Nat) (w w':World):Prop where
 other:∀ k,k≠b→w'.heap[k]?=w.heap[k]?
 size:w'.heap.size=w.heap.size
 os:w'.os=w.os
 output:w'.output=w.output
 tape:w'.tape=w.tape
theorem Wrote.refl (b:Nat) (w:World):Wrote b w w:=⟨fun _ _=>rfl,rfl,rfl,rfl,rfl⟩
theorem Inv.qY (h:Inv C st tm w I tk) {s b:Nat} {q:Tk} {d d':DV} (hs:st.box s=some d) (hq:tk s=some q) (hb:q.own b) (hw:Wrote b w w') (hd:aI w' I tk q d'):
  Inv C (st.gI s d') tm w' I tk where
 len:=h.len
 small:=h.small
 srt:=nD h.srt s d'
 slots:=fun i hi=>(h.slots i hi).world (fun _ hb=>hb) (fun k hk=>hw.other k fun e=>h.tokI s q b hq hb (e ▸ hk)) (aU.le.refl _)
 boxes:=fun r e hr=>by
  rw [iE] at hr
  by_cases hrs:r=s
  ·rw [if_pos hrs] at hr
   cases hr
   exact ⟨q,hrs ▸ hq,hd⟩
  ·rw [if_neg hrs] at hr
   obtain ⟨q',h1,h2⟩:=h.boxes r e hr
   exact ⟨q',h1,h2.world (fun _ hb=>hb) (fun k hk=>hw.other k fun e=>h.tokI s q b hq hb (e ▸ hk)) (aU.le.refl _)
    fun k hk=>hw.other k fun e=>hrs (h.inj r s q' q b h1 hq (e ▸ hk) hb)⟩
 inj:=h.inj
 tokLt:=fun a qa k h1 h2=>hw.size ▸ h.tokLt a qa k h1 h2
 tokI:=h.tokI
 tys:=h.tys
 ilt:=fun k hk=>hw.size ▸ h.ilt k hk
 fresh:=h.fresh
 ext:=fun j q' hj e he=>by
  rw [iE] at he
  by_cases hjs:site j=s
  ·exact h.ext j q' hj d (hjs ▸ hs)
  ·rw [if_neg hjs] at he
   exact h.ext j q' hj e he
 keep:=fun k hk hx=>by
  rw [hw.other k ?_]
  ·exact h.keep k hk hx
  ·intro e
   subst e
   rcases h.fresh s q k hq hb with h1|⟨j,q',h1,h2⟩
   ·omega
   ·exact hx j q' h1 h2
 size:=hw.size ▸ h.size
 os:=hw.os.trans h.os
 output:=hw.output.trans h.output
 tape:=hw.tape.trans h.tape
 sub:=h.sub
 new:=h.new
theorem Inv.wz (h:Inv C st tm w I tk) {s:Nat} {q:Tk} {d d':DV} (hs:st.box s=some d) (hq:tk s=some q) (hd:aI w I tk q d'):
  Inv C (st.gI s d') tm w I tk where
 len:=h.len
 small:=h.small
 srt:=nD h.srt s d'
 slots:=h.slots
 boxes:=fun r e hr=>by
  rw [iE] at hr
  by_cases hrs:r=s
  ·rw [if_pos hrs] at hr
   cases hr
   exact ⟨q,hrs ▸ hq,hd⟩
  ·rw [if_neg hrs] at hr
   exact h.boxes r e hr
 inj:=h.inj
 tokLt:=h.tokLt
 tokI:=h.tokI
 tys:=h.tys
 ilt:=h.ilt
 fresh:=h.fresh
 ext:=fun j q' hj e he=>by
  rw [iE] at he
  by_cases hjs:site j=s
  ·exact h.ext j q' hj d (hjs ▸ hs)
  ·rw [if_neg hjs] at he
   exact h.ext j q' hj e he
 keep:=h.keep
 size:=h.size
 os:=h.os
 output:=h.output
 tape:=h.tape
 sub:=h.sub
 new:=h.new
def aU.drop (tk:aU) (g:Nat):aU:=fun r=>if r=g then none else tk r
theorem nP {g r:Nat} {q:Tk} (h:tk.drop g r=some q):r≠g∧tk r=some q:=by
 unfold aU.drop at h
 split at h
 ·cases h
 ·rename_i e; exact ⟨e,h⟩
theorem qA {g r:Nat} (h:r≠g):tk.drop g r=tk r:=if_neg h
theorem Inv.QG (h:Inv C st tm w I tk) {g:Nat} (hf:st.free g) (hb:st.box g=none):Inv C st tm w I (tk.drop g) where
 len:=h.len
 small:=h.small
 srt:=h.srt
 slots:=fun i hi=>(h.slots i hi).congr fun r hr=>qA fun e=>hf.1 i hi (e ▸ hr)
 boxes:=fun r e hr=>by
  obtain ⟨q,h1,h2⟩:=h.boxes r e hr
  have hrg:r≠g:=fun e=>by rw [e,hb] at hr; cases hr
  exact ⟨q,(qA hrg).trans h1,h2.congr fun p hp=>qA fun e=>hf.2 r _ hrg hr (e ▸ hp)⟩
 inj:=fun a b qa qb k h1 h2=>h.inj a b qa qb k (nP h1).2 (nP h2).2
 tokLt:=fun a qa k h1=>h.tokLt a qa k (nP h1).2
 tokI:=fun a qa k h1=>h.tokI a qa k (nP h1).2
 tys:=fun a qa k h1=>h.tys a qa k (nP h1).2
 ilt:=h.ilt
 fresh:=fun a qa k h1=>h.fresh a qa k (nP h1).2
 ext:=fun j q' hj e he=>(qA fun hg=>by rw [hg,hb] at he; cases he).trans (h.ext j q' hj e he)
 keep:=h.keep
 size:=h.size
 os:=h.os
 output:=h.output
 tape:=h.tape
 sub:=h.sub
 new:=h.new
theorem Inv.KN (h:Inv C st tm w I tk) {b:Nat} (hb:∀ s q,tk s=some q→¬ q.own b) (hI:¬ I b) (hn:C.w0.heap.size≤b∨∃ (j:Nat) (q':Tk),C.xs[j]?=some q'∧q'.own b) (hw:Wrote b w w'):Inv C st tm w' I tk where
 len:=h.len
 small:=h.small
 srt:=h.srt
 slots:=fun i hi=>(h.slots i hi).world (fun _ hb=>hb) (fun k hk=>hw.other k fun e=>hI (e ▸ hk)) (aU.le.refl _)
 boxes:=fun r e hr=>by
  obtain ⟨q,h1,h2⟩:=h.boxes r e hr
  exact ⟨q,h1,h2.world (fun _ hb=>hb) (fun k hk=>hw.other k fun e=>hI (e ▸ hk)) (aU.le.refl _) fun k hk=>hw.other k fun e=>hb r q h1 (e ▸ hk)⟩
 inj:=h.inj
 tokLt:=fun a qa k h1 h2=>hw.size ▸ h.tokLt a qa k h1 h2
 tokI:=h.tokI
 tys:=h.tys
 ilt:=fun k hk=>hw.size ▸ h.ilt k hk
 fresh:=h.fresh
 ext:=h.ext
 keep:=fun k hk hx=>by
  rw [hw.other k ?_]
  ·exact h.keep k hk hx
  ·intro e
   subst e
   rcases hn with h1|⟨j,q',h1,h2⟩
   ·omega
   ·exact hx j q' h1 h2
 size:=hw.size ▸ h.size
 os:=hw.os.trans h.os
 output:=hw.output.trans h.output
 tape:=hw.tape.trans h.tape
 sub:=h.sub
 new:=h.new
end Go.Own
namespace Go.Own
variable {w:World} {I:Nat→Prop} {tk:aU}
theorem fK (t:Ty):bG t []=some (0,t):=by cases t<;>rfl
def splice (cs:List Value) (off:Nat) (c:List Value):List Value:=cs.take off++c++cs.drop (off+c.length)
theorem iH (cs:List Value) (off:Nat) (c:List Value) (h:off+c.length≤cs.length):(splice cs off c).length=cs.length:=by
 unfold splice; simp; omega
theorem dn (cs:List Value) (off:Nat) (c:List Value) (h:off+c.length≤cs.length) (k:Nat):
  (splice cs off c)[k]?=if off≤k∧k<off+c.length then c[k - off]? else cs[k]?:=by
 unfold splice
 have hl:(cs.take off).length=off:=by simp; omega
 rw [List.append_assoc]
 rcases Nat.lt_or_ge k off with h1|h1
 ·rw [List.getElem?_append_left (by omega),List.getElem?_take_of_lt h1,if_neg (by omega)]
 ·rw [List.getElem?_append_right (by omega),hl]
  rcases Nat.lt_or_ge k (off+c.length) with h2|h2
  ·rw [List.getElem?_append_left (by omega),if_pos ⟨h1,h2⟩]
  ·rw [List.getElem?_append_right (by omega),List.getElem?_drop,if_neg (by omega)]
   congr 1; omega
theorem dI (cs:List Value) (a n k:Nat):((cs.drop a).take n)[k]?=if k<n then cs[a+k]? else none:=by
 rw [List.getElem?_take]
 split
 ·rw [List.getElem?_drop]
 ·rfl
theorem gK {a b:List Value} (h:∀ k:Nat,a[k]?=b[k]?):a=b:=List.ext_getElem? h
theorem QS {n lo k:Nat} {t:Ty} {x:List t.den} {cs:List Value} (h:ai w I tk (.arr n t) x cs) (hlo:lo+k≤n):
  ai w I tk (.arr k t) ((x.drop lo).take k) ((cs.drop (lo*t.size)).take (k*t.size)):=by
 obtain ⟨hl,hc,h1⟩:=h
 have hm:(lo+k)*t.size≤n*t.size:=Nat.mul_le_mul_right _ hlo
 rw [Nat.add_mul] at hm
 refine ⟨by simp; omega,by simp; omega,fun i y hy=> ?_⟩
 rw [List.getElem?_take] at hy
 split at hy
 ·rename_i hi
  rw [List.getElem?_drop] at hy
  have:=h1 _ _ hy
  have h2:(i+1)*t.size≤k*t.size:=Nat.mul_le_mul_right _ hi
  rw [Nat.add_mul,Nat.one_mul] at h2
  have e:(((cs.drop (lo*t.size)).take (k*t.size)).drop (i*t.size)).take t.size=(cs.drop ((lo+i)*t.size)).take t.size:=by
   apply gK; intro j
   rw [dI _ (i*t.size),dI _ ((lo+i)*t.size)]
   split
   ·rw [dI,if_pos (by omega)]; congr 1; rw [Nat.add_mul]; omega
   ·rfl
  rw [e]; exact this
 ·cases hy
theorem kS (n0:Nat):∀ {pa:Path} {t u:Ty} {x:t.den} {y:u.den} {cs:List Value},ai w I tk t x cs→iI t x pa=some ⟨u,y⟩→pathIn n0 t.frz pa→
  ∃ off,bG t.frz pa=some (off,u.frz)∧ai w I tk u y ((cs.drop off).take u.size)∧off+u.size≤t.size:=by
 intro pa
 induction pa with
 |nil=>
  intro t u x y cs h hg _
  have:(⟨t,x⟩:DV)=⟨u,y⟩:=by cases t<;>simpa [iI] using hg
  cases this
  refine ⟨0,fK _,?_,by omega⟩
  have hl:=h.length
  rw [List.drop_zero,← hl,List.take_length]
  exact h
 |cons s pa ih=>
  intro t u x y cs h hg hp
  cases t<;>cases s<;>simp only [iI,reduceCtorEq] at hg<;>simp only [Ty.frz,pathIn] at hp
  case pair.fst a b=>
   obtain ⟨c1,c2,rfl,h1,h2⟩:=h
   obtain ⟨off,h3,h4,h5⟩:=ih h1 hg hp
   have l1:=h1.length
   refine ⟨off,h3,?_,by simp only [Ty.size]; omega⟩
   have:((c1++c2).drop off).take u.size=(c1.drop off).take u.size:=by
    apply gK; intro k
    rw [dI,dI]
    split
    ·rw [List.getElem?_append_left (by omega)]
    ·rfl
   rw [this]; exact h4
  case pair.snd a b=>
   obtain ⟨c1,c2,rfl,h1,h2⟩:=h
   obtain ⟨off,h3,h4,h5⟩:=ih h2 hg hp
   have l1:=h1.length
   refine ⟨a.size+off,by simp [Ty.frz,bG,h3,Ty.fA],?_,by simp only [Ty.size]; omega⟩
   have:((c1++c2).drop (a.size+off)).take u.size=(c2.drop off).take u.size:=by
    apply gK; intro k
    rw [dI,dI]
    split
    ·rw [List.getElem?_append_right (by omega)]; congr 1; omega
    ·rfl
   rw [this]; exact h4
  case arr.ix n t i=>
   obtain ⟨hl,hc,h1⟩:=h
   have hi:i<x.length:=by omega
   have hxi:x[i]?=some (List.getD x i t.dflt):=by
    rw [List.getD_eq_getElem?_getD,List.getElem?_eq_getElem hi]; rfl
   obtain ⟨off,h3,h4,h5⟩:=ih (h1 i _ hxi) hg hp.2
   have hm:(i+1)*t.size≤n*t.size:=Nat.mul_le_mul_right _ hp.1
   rw [Nat.add_mul,Nat.one_mul] at hm
   refine ⟨i*t.size+off,by simp [Ty.frz,bG,h3,Ty.fA],?_,by simp only [Ty.size]; omega⟩
   have:(cs.drop (i*t.size+off)).take u.size=(((cs.drop (i*t.size)).take t.size).drop off).take u.size:=by
    apply gK; intro k
    rw [dI,dI]
    split
    ·rw [dI,if_pos (by omega)]; congr 1; omega
    ·rfl
   rw [this]; exact h4
  case dyn.ix t i=>exact h.elim
  case dyn.sub t lo k=>exact h.elim
  case arr.sub n t lo k=>
   obtain ⟨off,h3,h4,h5⟩:=ih (t:= .arr k t) (QS h hp.1) hg hp.2
   have hm:(lo+k)*t.size≤n*t.size:=Nat.mul_le_mul_right _ hp.1
   rw [Nat.add_mul] at hm
   simp only [Ty.size] at h5 ⊢
   simp only [Ty.frz] at h3
   refine ⟨lo*t.size+off,by simp [Ty.frz,bG,h3,Ty.fA],?_,by omega⟩
   have:(cs.drop (lo*t.size+off)).take u.size=(((cs.drop (lo*t.size)).take (k*t.size)).drop off).take u.size:=by
    apply gK; intro j
    rw [dI _ (lo*t.size+off),dI _ off]
    split
    ·rw [dI,if_pos (by omega)]; congr 1; omega
    ·rfl
   rw [this]; exact h4
end Go.Own
namespace Go.Own
variable {w:World} {I:Nat→Prop} {tk:aU}
theorem vK (n0:Nat):∀ {pa:Path} {t u t':Ty} {x:t.den} {x':t'.den} {y:u.den} {cs c:List Value} {off:Nat},ai w I tk t x cs→qR t x pa ⟨u,y⟩=some ⟨t',x'⟩→pathIn n0 t.frz pa→ai w I tk u y c→
  bG t.frz pa=some (off,u.frz)→ai w I tk t' x' (splice cs off c)∧off+u.size≤t.size∧t'.frz=t.frz:=by
 intro pa
 induction pa with
 |nil=>
  intro t u t' x x' y cs c off h hs _ hc ho
  rw [fK] at ho
  simp only [Option.some.injEq,Prod.mk.injEq] at ho
  obtain ⟨rfl,e⟩:=ho
  have hs':(⟨u,y⟩:DV)=⟨t',x'⟩:=by cases t<;>simpa [qR] using hs
  cases hs'
  have l1:=h.length
  have l2:=hc.length
  have l3:u.size=t.size:=by rw [← Ty.fA u,← Ty.fA t,e]
  have:splice cs 0 c=c:=by unfold splice; simp [l1,l2,l3]
  rw [this]; exact ⟨hc,by omega,e.symm⟩
 |cons s pa ih=>
  intro t u t' x x' y cs c off h hs hp hc ho
  have l2:=hc.length
  cases t<;>cases s<;>simp only [qR,reduceCtorEq] at hs<;>simp only [Ty.frz,pathIn] at hp
  case dyn.ix t i=>exact h.elim
  case pair.fst a b=>
   obtain ⟨⟨z1,z2⟩,hz,e⟩:=Option.map_eq_some_iff.1 hs
   cases e
   obtain ⟨c1,c2,rfl,h1,h2⟩:=h
   obtain ⟨h4,h5,h6⟩:=ih h1 hz hp hc ho
   have l1:=h1.length
   refine ⟨⟨splice c1 off c,c2,?_,h4,h2⟩,by simp only [Ty.size]; omega,by simp only [Ty.frz,h6]⟩
   apply gK; intro k
   have hsl:(splice c1 off c).length=c1.length:=iH _ _ _ (by omega)
   rw [dn _ _ _ (by simp; omega)]
   rcases Nat.lt_or_ge k c1.length with hk|hk
   ·rw [List.getElem?_append_left (l₁:=splice c1 off c) (by omega),dn _ _ _ (by omega),List.getElem?_append_left hk]
   ·rw [List.getElem?_append_right (l₁:=splice c1 off c) (by omega),hsl,List.getElem?_append_right hk,if_neg (by omega)]
  case pair.snd a b=>
   obtain ⟨⟨z1,z2⟩,hz,e⟩:=Option.map_eq_some_iff.1 hs
   cases e
   obtain ⟨c1,c2,rfl,h1,h2⟩:=h
   simp only [Ty.frz,bG] at ho
   obtain ⟨⟨o1,u1⟩,ho1,e⟩:=Option.map_eq_some_iff.1 ho
   simp only [Prod.mk.injEq] at e
   obtain ⟨rfl,rfl⟩:=e
   obtain ⟨h4,h5,h6⟩:=ih h2 hz hp hc ho1
   have l1:=h1.length
   have l3:=h2.length
   have l4:=Ty.fA a
   refine ⟨⟨c1,splice c2 o1 c,?_,h1,h4⟩,by simp only [Ty.size]; omega,by simp only [Ty.frz,h6]⟩
   apply gK; intro k
   rw [dn _ _ _ (by simp; omega)]
   rcases Nat.lt_or_ge k c1.length with hk|hk
   ·rw [List.getElem?_append_left hk,List.getElem?_append_left hk,if_neg (by omega)]
   ·rw [List.getElem?_append_right hk,List.getElem?_append_right hk,dn _ _ _ (by omega)]
    by_cases hq:a.frz.size+o1≤k∧k<a.frz.size+o1+c.length
    ·rw [if_pos hq,if_pos (by omega)]; congr 1; omega
    ·rw [if_neg hq,if_neg (by omega)]
  case arr.ix n t i=>
   obtain ⟨⟨z1,z2⟩,hz,e⟩:=Option.bind_eq_some_iff.1 hs
   split at e
   case isFalse=>cases e
   rename_i hzt
   dsimp only at hzt
   subst hzt
   cases e
   obtain ⟨hl,hcl,h1⟩:=h
   simp only [Ty.frz,bG] at ho
   obtain ⟨⟨o1,u1⟩,ho1,e⟩:=Option.map_eq_some_iff.1 ho
   simp only [Prod.mk.injEq] at e
   obtain ⟨rfl,rfl⟩:=e
   have l4:=Ty.fA z1
   rw [l4]
   have hi:i<x.length:=by omega
   have hxi:x[i]?=some (List.getD x i z1.dflt):=by
    rw [List.getD_eq_getElem?_getD,List.getElem?_eq_getElem hi]; rfl
   obtain ⟨h4,h5,h6⟩:=ih (h1 i _ hxi) hz hp.2 hc ho1
   have hm:(i+1)*z1.size≤n*z1.size:=Nat.mul_le_mul_right _ hp.1
   rw [Nat.add_mul,Nat.one_mul] at hm
   refine ⟨⟨by simpa using hl,by rw [iH _ _ _ (by omega)]; exact hcl,?_⟩,by simp only [Ty.size]; omega,rfl⟩
   intro j v hj
   rw [List.getElem?_set] at hj
   by_cases hij:i=j
   ·subst hij
    rw [if_pos rfl,if_pos hi] at hj
    simp only [Option.some.injEq] at hj
    subst hj
    have:((splice cs (i*z1.size+o1) c).drop (i*z1.size)).take z1.size=splice ((cs.drop (i*z1.size)).take z1.size) o1 c:=by
     apply gK; intro k
     have hlen:((cs.drop (i*z1.size)).take z1.size).length=z1.size:=by simp; omega
     rw [dI,dn _ _ _ (by omega),dn _ _ _ (by omega),dI]
     by_cases hk:k<z1.size
     ·rw [if_pos hk,if_pos hk]
      by_cases hq:o1≤k∧k<o1+c.length
      ·rw [if_pos hq,if_pos (by omega)]; congr 1; omega
      ·rw [if_neg hq,if_neg (by omega)]
     ·rw [if_neg hk,if_neg hk,if_neg (by omega)]
    rw [this]; exact h4
   ·rw [if_neg hij] at hj
    have hjl:j<n:=by
     have:=(List.getElem?_eq_some_iff.1 hj).1; omega
    have h7:=h1 j v hj
    have:((splice cs (i*z1.size+o1) c).drop (j*z1.size)).take z1.size=(cs.drop (j*z1.size)).take z1.size:=by
     apply gK; intro k
     rw [dI,dI]
     by_cases hk:k<z1.size
     ·rw [if_pos hk,if_pos hk,dn _ _ _ (by omega),if_neg]
      rintro ⟨q1,q2⟩
      rcases Nat.lt_or_gt_of_ne hij with hlt|hgt
      ·have:=Nat.mul_le_mul_right z1.size (show i+1≤j by omega)
       rw [Nat.add_mul,Nat.one_mul] at this; omega
      ·have:=Nat.mul_le_mul_right z1.size (show j+1≤i by omega)
       rw [Nat.add_mul,Nat.one_mul] at this; omega
     ·rw [if_neg hk,if_neg hk]
    rw [this]; exact h7
end Go.Own
