/- What is proved: the evaluator of the translated code, and that it is sound, part 2. Conditions: those that each theorem names. -/
import Derived.Test.YtnighkkdmgmcnaaGreatW1
import Derived.Test.YtnighkkdmgmcnaaGreatW0
set_option linter.unusedVariables false
set_option linter.unusedSimpArgs false
namespace Go.Own
inductive Pm where
 |set (i:Nat) (v:SV)
 |ins (s:Nat) (d:DV)
 |kill (s:Nat)
 |frz (s:Nat) (c:DV)
 |del (s:Nat)
def Pm.run:Pm→St→St
 | .set i v,st=> {st with sl:=st.sl.set i v}
 | .ins s d,st=>st.gI s d
 | .kill s,st=>st.kill s
 | .frz s c,st=>st.jI s c
 | .del s,st=> {st with bx:=Be s st.bx}
def aN:List Pm→St→St
 | [],st=>st
 |p::ps,st=>aN ps (p.run st)
def Pm.fs:Pm→List Nat
 | .frz s _=> [s]
 |_=> []
def Pm.val:Pm→SV→SV
 | .kill s,v=>v.kill s
 | .frz s c,v=>v.frz s c
 |_,v=>v
def qU:List Pm→SV→SV
 | [],v=>v
 |p::ps,v=>qU ps (p.val v)
structure Ef where
 ps:List Pm
 v:Option SV
def St.M9 (st:St) (d:Option Nat) (v:SV):St:=match d with|some d=> {st with sl:=st.sl.set d v}|none=>st
def Ef.run (dst:Option Nat) (e:Ef) (st:St):St:=match e.v with
 |some v=>(aN e.ps st).M9 dst v
 |none=>aN e.ps st
def j5:Nat→St→List Nat→Option (List Pm)
 |_,_,[]=>some []
 |0,_,_::_=>none
 |n+1,st,s::ss=>match st.box s with
  |none=>j5 n st ss
  |some d=>match mentions d.1 with
   | []=>bif d.mD then (j5 n (st.jI s d) ss).map (.frz s d:: ·) else
     bif (dz d.1 d.2).1.bL then none else
     bif (dz d.1 d.2).mD then (j5 n ((st.gI s (dz d.1 d.2)).jI s (dz d.1 d.2)) ss).map fun ps=> .ins s (dz d.1 d.2):: .frz s (dz d.1 d.2)::ps else none
   |m::ms=>bif (m::ms).any (Nat.beq s) then none else j5 n st ((m::ms)++s::ss)
def Eo:Nat:=100
def oZ (st:St) (vs:List SV):Option (List Pm):=j5 Eo st (vs.flatMap SV.homes)
def GN (st:St) (u:Option Ty) (v:SV):Option (List Pm×DV):=match oZ st [v] with
 |some fs=>(oK u (qU fs v)).map fun d=>(fs,d)
 |none=>none
def kQ (d:Nat) (c:DV):List Pm:= [.kill d,.ins d c]
def Ag (dst:Option Nat) (t:Ty) (nl:Bool) (l:List t.den) (ps:List Pm):Option Ef:=match dst with
 |some d=>some ⟨ps++kQ d ⟨.dyn t,(nl,l)⟩,some (.va d t.frz)⟩
 |none=>none
def QT (dst:Option Nat) (av:List Nat) (t:Ty):Bool:=t.frz.plain&&t.known&& !t.bL&&o9 (mentions t) (dst.toList++av)
def uH (E:Env) (dst:Option Nat) (T:TypeId) (u:Ty) (ys:List u.den) (t:Ty) (nl:Bool) (l:List t.den) (av:List Nat) (ps:List Pm):Option (Bool×Ef):=
 if h:u=t then
  bif E.isT T (.sl t.frz)&&QT dst av t then (Ag dst t (nl&&ys.isEmpty) (l++(h ▸ ys)) ps).map fun e=>(decide ((2*(l.length+ys.length)+512)*E.B T≤70368744177664),e) else none
 else none
def xX (E:Env) (st:St) (T:TypeId):SV→Option ((t:Ty)×List t.den)
 | .p ⟨.str,s⟩=>some ⟨.int .u8,s.data.toList.map fun b=>(b.toNat:Int)⟩
 | .nil=>match E.T T with|some (.sl t)=>some ⟨t,[]⟩|_=>none
 |v=>Cj st v
def EA (E:Env) (T:TypeId) (st:St) (p:Nat) (t:Ty) (k:Nat) (ys:(u:Ty)×List u.den):Option (Bool×Ef):=match st.box p with
 |some ⟨.pool u,l⟩=>if h:ys.1=u then
   bif decide (u=t)&&E.isT T (.sl t)&&Nat.blt p 1000000 then
    some (!Nat.beq (List.getD l k (0,[])).1 2&&decide ((2*((List.getD l k (0,[])).2.length+ys.2.length)+512)*E.B T≤70368744177664),
     ⟨[.ins p ⟨.pool u,(List.set l k (bif Nat.beq (List.getD l k (0,[])).1 3 then 3 else 2,(List.getD l k (0,[])).2))++ [(1,(List.getD l k (0,[])).2++(h ▸ ys.2))]⟩],some (.sd ⟨.rid p t,l.length⟩)⟩) else none
  else none
 |_=>none
def zw (E:Env) (dst:Option Nat) (T:TypeId) (x:SV) (st:St) (u:Ty) (ys:List u.den):Option (Bool×Ef):=
 match x with
 | .va g _=>match st.box g with
  |some ⟨.dyn t,l⟩=>uH E dst T u ys t l.1 l.2 [g] [.kill g,.del g]
  |_=>none
 | .vs g _ [] lo n=>match st.box g with
  |some ⟨.dyn t,l⟩=>uH E dst T u ys t (l.1&&decide (n=0)) ((l.2.drop lo).take n) [g] [.kill g,.del g]
  |_=>none
 | .nil=>match E.T T with|some (.sl t)=>bif decide (u.frz=t) then uH E dst T u ys u true [] [] [] else none|_=>none
 |_=>none
def xB (E:Env) (dst:Option Nat) (T:TypeId) (x y:SV) (st:St):Option (Bool×Ef):=
 match xX E st T y with
 |some ⟨u,ys⟩=>match x with
  | .sd ⟨.rid p t,k⟩=>EA E T st p t k ⟨u,ys⟩
  |x=>zw E dst T x st u ys
 |none=>none
def Ey (E:Env) (dst:Option Nat) (T:TypeId) (x:SV) (n:Int) (st:St):Option (Bool×Ef):=
 match E.T T with
 |some (.sl t)=>bif t.plain then (zw E dst T x st t (List.replicate n.toNat t.dflt)).map fun r=>(decide (0≤n)&&r.1,r.2) else none
 |_=>none
def over {α:Type} (l:List α) (lo:Nat) (ys:List α):List α:=l.take lo++ys++l.drop (lo+ys.length)
def Ct (st:St) (x:SV) (u:Ty) (ys:Nat→List u.den):Option (Nat×List Pm):=
 match x with
 | .va g t=>match st.box g with
  |some ⟨.dyn t',l⟩=>if h:u=t' then some (l.2.length,[.ins g ⟨.dyn t',(l.1,over l.2 0 (h ▸ ys l.2.length))⟩]) else none
  |_=>none
 | .vs g t pa lo n=>match st.box g with
  |some d=>match iI d.1 d.2 pa with
   |some ⟨.dyn t',l⟩=>if h:u=t' then bif pa.isEmpty then some (n,[.ins g ⟨.dyn t',(l.1,over l.2 lo (h ▸ ys n))⟩]) else none else none
   |some ⟨.arr m t',l⟩=>if h:u=t' then bif d.1.fD then none else (qR d.1 d.2 pa ⟨.arr m t',over l lo (h ▸ ys n)⟩).map fun z=>(n,[.ins g z]) else none
   |_=>none
  |none=>none
 |_=>none
def GZ (E:Env) (dst:Option Nat) (b:Builtin) (Ts:List TypeId) (vs:List SV) (st:St):Option (Bool×Ef):=
 match b,Ts,vs with
 | .len,T::_,[v]=>match Sv E st T v with|some d=>some (true,⟨[],some (.p d)⟩)|none=>none
 | .append,[T,T2],[x,y]=>match E.T T2 with
  |some (.sl _)=>xB E dst T x y st
  |some .str=>xB E dst T x y st
  |some (.int _)=>match y with
   | .p ⟨.int _,n⟩=>Ey E dst T x n st
   |_=>none
  |_=>none
 | .copy,[T,T2],[x,y]=>match xX E st T2 y with
  |some ⟨u,ys⟩=>bif E.isT T (.sl u)&&u.plain then (match Ct st x u fun n=>ys.take n with
   |some (n,ps)=>some (true,⟨ps,some (.p ⟨.int .i64,((min n ys.length:Nat):Int)⟩)⟩)
   |none=>none) else none
  |none=>none
 | .clear,[T],[x]=>match E.T T,dst with
  |some (.sl u),none=>bif u.plain then (match Ct st x u fun n=>List.replicate n u.dflt with
   |some (_,ps)=>some (true,⟨ps,none⟩)
   |none=>none) else none
  |_,_=>none
 | .max,_,v::r=>match maxS true v r with|some d=>some (true,⟨[],some (.p d)⟩)|none=>none
 |_,_,_=>none
def Ty.z:Ty→Ty
 | .pair a b=> .pair a.z b.z
 | .sl t=> .nsl t
 | .mp s k v=> .junk (.mp s k v)
 |t=>t
def Ty.zok:Ty→Bool
 | .pair a b=>a.zok&&b.zok
 | .arr _ t=>t.plain
 | .mp _ _ _=>true
 |t=>t.plain
def partsOf (st:St) (parts:List (Nat×Operand)):List (Nat×SV):=parts.map fun p=>(p.1,ev st p.2)
def xV (t:Ty) (j4:Bool) (fs:List Pm):List (Nat×SV)→Option (List (Nat×SV))
 | []=>some []
 |(i,v)::r=>match oK (lq t (bif j4 then [.ix i] else aR i)) (qU fs v),xV t j4 fs r with
  |some d,some ds=>some ((i,.p d)::ds)
  |_,_=>none
def OB (st:St) (t:Ty) (parts:List (Nat×SV)):Option (List Pm×DV):=
 match uD t.j4 ⟨t.z,t.z.dflt⟩ parts with
 |some y=>some ([],y)
 |none=>match oZ st (parts.map (·.2)) with
  |some fs=>match xV t t.j4 fs parts with
   |some ds=>bif t.plain then (uD t.j4 ⟨t,t.dflt⟩ ds).map fun y=>(fs,y) else none
   |none=>none
  |none=>none
def IL:SV→Bool
 | .pb .. =>true
 |_=>false
def GV (fs:List Pm):List SV→Option (List SV)
 | []=>some []
 |v::r=>match (bif IL v then some v else (oK none (qU fs v)).map .p),GV fs r with
  |some c,some cs=>some (c::cs)
  |_,_=>none
def zf (st:St) (s:Nat) (t:Ty) (pa:Path) (d:DV):Option (List Pm):=match st.box s with
 |some b=>bif decide (d.1.frz=t)&&d.1.known then (qR b.1 b.2 pa d).map fun z=> [Pm.ins s z] else none
 |none=>none
def DW (st:St) (s:Nat):Bool:=match st.box s with
 |some d=>d.1.fD
 |none=>false
def MG (st:St) (a x:SV):Option (List Pm):=
 match a with
 | .pb s t pa=>match (zP t x).bind (zf st s t pa) with
  |some ps=>some ps
  |none=>match GN st (some t) x with
   |some (fs,d)=>bif (fs.flatMap Pm.fs).any (Nat.beq s)||DW (aN fs st) s then none else (zf (aN fs st) s t pa d).map fun ps=>fs++ps
   |none=>none
 |_=>none
def Rp (E:Env) (T:TypeId) (v:SV):Bool:=match pR v with|some t=>E.isT T t|none=>false
def Kg (st:St):SV→Option (Ty×SV)
 | .pb s _ pa=>match st.box s with
  |some b=>match iI b.1 b.2 pa with
   |some d=>(vP d).map fun v=>(d.1.frz,v)
   |none=>none
  |none=>none
 | .p ⟨.ref t,some x⟩=>some (t,.p ⟨t,x⟩)
 |_=>none
def rzT (b:Bool) (p:Nat) (u t:Ty):Ty:=bif b then .rid p u else .sl t
def rzV (p:Nat) (u t:Ty) (k:Nat):(b:Bool)→(rzT b p u t).den
 |true=>k
 |false=>([]:List t.den)
def Ty.rz (p:Nat) (u:Ty):Ty→Ty
 | .pair a b=> .pair (Ty.rz p u a) (Ty.rz p u b)
 | .sl t=>rzT (decide (t=u)) p u t
 |t=>t
def rzD (p:Nat) (u:Ty) (k:Nat):(t:Ty)→(Ty.rz p u t).den
 | .pair a b=>(rzD p u k a,rzD p u k b)
 | .sl t=>rzV p u t k (decide (t=u))
 | .int k=>(Ty.int k).dflt
 | .bool=>Ty.bool.dflt
 | .str=>Ty.str.dflt
 | .flt=>Ty.flt.dflt
 | .unit=>()
 | .eos _=>()
 | .arr n t=>(Ty.arr n t).dflt
 | .ref _=>none
 | .nif=>()
 | .slf=>()
 | .nsl _=>()
 | .sf .. =>true
 | .vw .. =>()
 | .pt .. =>()
 | .mp .. =>()
 | .rid .. =>(0:Nat)
 | .junk _=>()
 | .dyn _=>(true,[])
 | .map _ _=> []
 | .pool _=> []
def FB (st:St) (p:Nat) (u:Ty):SV→Option (List Pm×Nat)
 | .va d _=>match st.box d,st.box p with
  |some ⟨.dyn t,x⟩,some ⟨.pool v,l⟩=>if h:t=v then bif decide (u=v)&&Nat.blt p 1000000&&Nat.blt d 1000000&& !Nat.beq d p then some ([.kill d,.del d,.ins p ⟨.pool v,l++ [(0,(h ▸ x.2:List v.den))]⟩],l.length) else none else none
  |_,_=>none
 |_=>none
def Mq (st:St):SV→Bool
 | .pb p _ (.ix k::_)=>match st.box p with
  |some ⟨.pool _,l⟩=>Nat.beq (List.getD l k (0,[])).1 0
  |_=>true
 |_=>true
def opP (E:Env) (o:Oper) (st:St):Option (Bool×Ef):=
 match o.op with
 | .move x=>some (true,⟨[],some (ev st x)⟩)
 | .assign x=>match ev st x with
  | .nilp=>match oK (E.T o.type) .nilp with
   |some d=>some (true,⟨[],some (.p d)⟩)
   |none=>none
  |v=>some (true,⟨[],some v⟩)
 | .pick c a b=>match Rt (ev st c) (ev st a) (ev st b) with
  |some (c,d)=>some (c,⟨[],some (.p d)⟩)
  |none=>none
 | .alloc T=>match E.T T,o.dst with
  |some t,some d=>bif t.zok then some (true,⟨kQ d ⟨t.z,t.z.dflt⟩,some (.pb d t [])⟩) else none
  |_,_=>none
 | .box T x=>match o.dst,E.T T with
  |some d,some t=>match zP t (ev st x) with
   |some v=>bif decide (v.1.frz=t)&&v.1.known&& !(mentions v.1).any (Nat.beq d) then some (true,⟨kQ d v,some (.pb d t [])⟩) else none
   |none=>match GN st (some t) (ev st x) with
    |some (fs,v)=>bif decide (v.1=t) then some (true,⟨fs++kQ d v,some (.pb d t [])⟩) else none
    |none=>none
  |_,_=>none
 | .build T parts=>match E.T T with
  |some t=>bif t.isAgg&&t.zok then (match OB st t (partsOf st parts.toList) with
   |some (fs,y)=>some (true,⟨fs,some (mkS y)⟩)
   |none=>none) else none
  |_=>none
 | .buildSlice T n parts=>match E.pool T with
  |some p=>match E.T T,parts.toList,o.dst with
   |some (.sl (.sl u)),[(0,x)],some d=>match FB st p u (ev st x) with
    |some (ps,k)=>bif Nat.beq n 1&& !Nat.beq d p then some (true,⟨ps++kQ d ⟨.dyn (.rid p u),(false,[k])⟩,some (.va d (.sl u))⟩) else none
    |none=>none
   |_,_,_=>none
  |none=>match E.T T,oZ st (parts.toList.map fun (_,x)=>ev st x) with
   |some (.sl t),some fs=>bif decide (n*t.size≤16777216)&&t.plain then
    (match xV (.arr n t) true fs (partsOf st parts.toList) with
     |some ds=>match uD true ⟨.arr n t,(Ty.arr n t).dflt⟩ ds with
      |some ⟨.arr _ u,l⟩=>if h:u=t then (Ag o.dst t false (h ▸ l) fs).map fun e=>(true,e) else none
      |_=>none
     |none=>none) else none
   |_,_=>none
 | .load T a=>match Kg st (ev st a) with
  |some (t,v)=>bif E.isT T t then some (true,⟨[],some v⟩) else none
  |none=>none
 | .store T a x=>match o.dst with
  |none=>match MG st (ev st a) (ev st x) with
   |some ps=>bif Rp E T (ev st a) then some (Mq st (ev st a),⟨ps,none⟩) else none
   |none=>none
  |some _=>none
 | .nilCheck x=>match ev st x with
  | .pb s t pa=>some (true,⟨[],some (.pb s t pa)⟩)
  | .mp s k v=>some (true,⟨[],some (.mp s k v)⟩)
  | .clo f caps=>some (true,⟨[],some (.clo f caps)⟩)
  | .nilp=>some (false,⟨[],some .nilp⟩)
  | .p ⟨.ref t,r⟩=>some (r.isSome,⟨[],some (.p ⟨.ref t,some (r.getD t.dflt)⟩)⟩)
  |_=>none
 | .binOp op T x y _=>match binop st (E.T T) op (ev st x) (ev st y) with
  |some (c,d)=>some (c,⟨[],some (.p d)⟩)
  |none=>none
 | .unOp op _ x=>match unop op (ev st x) with
  |some d=>some (true,⟨[],some (.p d)⟩)
  |none=>none
 | .convert S T x=>match E.T S,E.T T with
  |some (.int _),some (.int k)=>match ev st x with
   | .p ⟨.int _,n⟩=>some (true,⟨[],some (.p ⟨.int k,k.wrap n⟩)⟩)
   |_=>none
  |_,_=>none
 | .makeFunc (.func f) first caps=>match oZ st ((caps.toList.map (ev st)).filter fun v=> !IL v) with
  |some fs=>bif first.toList.isEmpty&&o9 ((caps.toList.map (ev st)).flatMap fun v=>bif IL v then v.sites else []) (fs.flatMap Pm.fs) then (GV fs (caps.toList.map (ev st))).map fun cs=>(true,⟨fs,some (.clo f cs)⟩) else none
  |none=>none
 | .makeSlice T l c=>match E.T T,ev st l,ev st c with
  |some (.sl t),.p ⟨.int _,l⟩,.p ⟨.int _,c⟩=>match E.pool T with
   |some p=>match st.box p,o.dst with
    |some ⟨.pool u,r⟩,some d=>bif t.plain&&Nat.blt p 1000000&& !Nat.beq d p then
      some (decide (0≤(l:Int))&&decide ((l:Int)≤c)&&decide ((c:Int)*E.B T≤70368744177664),
       ⟨.ins p ⟨.pool u,r++ [(3,[])]⟩::kQ d ⟨.dyn (Ty.rz p u t),(false,List.replicate (l:Int).toNat (rzD p u r.length t))⟩,some (.va d t)⟩) else none
    |_,_=>none
   |none=>bif t.plain then
   (Ag o.dst t false (List.replicate (l:Int).toNat t.dflt) []).map fun e=>(decide (0≤(l:Int))&&decide ((l:Int)≤c)&&decide ((c:Int)*E.B T≤70368744177664),e) else none
  |_,_,_=>none
 | .slice T x lo hi none=>match MK st (E.T T) (ev st x) (lo.map (ev st)) (hi.map (ev st)) with
  |some (c,v)=>some (c,⟨[],some v⟩)
  |none=>none
 | .sliceToArrayPointer T x=>match E.T T with
  |some (.arr n u)=>bif Nat.ble 1 n&&u.size != 0 then (OL st n u (ev st x)).map fun r=>(r.1,⟨[],some r.2⟩) else none
  |_=>none
 | .fieldAddr T x f=>match partOf (aR f) (ev st x),pR (ev st x) with
  |some v,some t=>bif E.isT T t&&nzT v then some (true,⟨[],some v⟩) else none
  |_,_=>none
 | .field T x f=>match ev st x with
  | .p d=>match iI d.1 d.2 (aR f) with
   |some r=>bif E.isT T d.1 then some (true,⟨[],some (.p r)⟩) else none
   |none=>none
  | .sd d=>match iI d.1 d.2 (aR f) with
   |some r=>match vP r with
    |some v=>bif E.isT T d.1.frz then some (true,⟨[],some v⟩) else none
    |none=>none
   |none=>none
  |_=>none
 | .indexAddr T x i=>match Kl E st T (ev st x) (ev st i) with
  |some (c,v)=>some (c,⟨[],some v⟩)
  |none=>none
 | .index T x i=>match ev st x,ev st i with
  | .p ⟨.str,s⟩,.p ⟨.int _,i⟩=>bif E.isT T .str then
    some (decide (0≤(i:Int))&&decide ((i:Int)<s.size),⟨[],some (.p ⟨.int .u8,((s.data.getD (i:Int).toNat 0).toNat:Int)⟩)⟩) else none
  | .p ⟨.arr n t,l⟩,.p ⟨.int _,i⟩=>bif E.isT T (.arr n t) then
    some (decide (0≤(i:Int))&&decide ((i:Int)<n),⟨[],some (.p ⟨t,l.getD (i:Int).toNat t.dflt⟩)⟩) else none
  |_,_=>none
 | .extract (.tmp i) j=>match st.slot i with
  | .tup l=>match l[j]? with
   |some v=>some (true,⟨[],some v⟩)
   |none=>none
  |_=>none
 | .call c=>match c.callee with
  | .builtin b=>GZ E o.dst b c.argTypes.toList (c.args.toList.map (ev st)) st
  |_=>none
 |_=>none
end Go.Own
