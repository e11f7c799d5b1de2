/- What is proved: the evaluator of the translated code, and that it is sound, part 1. Conditions: those that each theorem names. -/
import Derived.Test.YtnighkkdmgmcnaaGreatW0
set_option linter.unusedVariables false
set_option linter.unusedSimpArgs false
namespace Go.Own
structure Env where
 T:TypeId→Option Ty
 B:TypeId→Nat
 own:FuncId→Nat→Bool
 uns:TypeId→Bool
 up:TypeId→Option Nat
 pool:TypeId→Option Nat
 pools:List (Nat×Ty)
def J4:Value→SV
 | .int k n=> .p ⟨.int k,n⟩
 | .bool b=> .p ⟨.bool,b⟩
 | .string s=> .p ⟨.str,s⟩
 | .float .f64 b=> .p ⟨.flt,b⟩
 | .slice none 0 0=> .nil
 | .map none=> .nilm
 | .pointer none=> .nilp
 | .nilIface=> .p ⟨.nif,()⟩
 |_=> .dead
def ev (st:St):Operand→SV
 | .tmp i=>match st.slot i with
  | .und=> .dead
  |v=>v
 | .const v=>J4 v
 | .func f=> .clo f []
 | .global _=> .dead
def Env.isT (E:Env) (T:TypeId) (t:Ty):Bool:=match E.T T with
 |some u=>decide (u=t)||(match u,t with| .ref _,.slf=>true|_,_=>false)
 |none=>false
def rowOf (st:St) (p:Nat) (t:Ty) (k:Nat):Option (Nat×List t.den):=match st.box p with
 |some ⟨.pool u,l⟩=>if h:u=t then some (h ▸ List.getD l k (0,[])) else none
 |_=>none
def Cj (st:St):SV→Option ((t:Ty)×List t.den)
 | .p ⟨.sl t,l⟩=>some ⟨t,l⟩
 | .va s _=>match st.box s with|some ⟨.dyn u,x⟩=>some ⟨u,x.2⟩|_=>none
 | .vs s _ pa lo n=>match st.box s with
  |some d=>match iI d.1 d.2 pa with
   |some y=>bif pa.isEmpty|| !y.1.bL then (match kN y with|some x=>some ⟨x.1,(x.2.drop lo).take n⟩|none=>none) else none
   |none=>none
  |none=>none
 | .sd ⟨.rid p t,k⟩=>match rowOf st p t k with
  |some r=>some ⟨t,r.2⟩
  |none=>none
 |_=>none
def SV.homes:SV→List Nat
 | .va s _=> [s]
 | .vs s _ _ _ _=> [s]
 | .pb s _ _=> [s]
 | .sd d=>mentions d.1
 |_=> []
def oK (u:Option Ty):SV→Option DV
 | .p d=>some d
 | .sd d=>bif (dz d.1 d.2).1.plain then some (dz d.1 d.2) else none
 | .nil=>match u with|some (.sl t)=>bif t.plain then some ⟨.sl t,[]⟩ else none|_=>none
 | .nilp=>match u with|some (.ref t)=>bif t.plain then some ⟨.ref t,none⟩ else none|some .slf=>some ⟨.slf,()⟩|_=>none
 |_=>none
def zP (u:Ty):SV→Option DV
 | .p d=>some d
 | .sd d=>some d
 | .nil=>match u with| .sl t=>some ⟨.nsl t,()⟩|_=>none
 | .nilp=>match u with| .ref t=>some ⟨.ref t,none⟩| .slf=>some ⟨.slf,()⟩|_=>none
 | .va s t=>some ⟨.vw s t,()⟩
 | .pb s t pa=>match u with| .slf=>some ⟨.sf s t pa,false⟩|_=>some ⟨.pt s t pa,()⟩
 | .mp s k v=>some ⟨.mp s k v,()⟩
 |_=>none
def vP:DV→Option SV
 |⟨.vw s t,_⟩=>some (.va s t)
 |⟨.pt s t pa,_⟩=>some (.pb s t pa)
 |⟨.mp s k v,_⟩=>some (.mp s k v)
 |⟨.nsl _,_⟩=>some .nil
 |⟨.junk _,_⟩=>none
 |d=>bif d.1.bL then none else some (mkS d)
def eU (k:IntKind) (f:BitVec k.bits→BitVec k.bits→BitVec k.bits) (a b:Int):Int:=k.wrap (f (BitVec.ofInt k.bits a) (BitVec.ofInt k.bits b)).toNat
def SA (op:BinOp) (k:IntKind) (a b:Int):Option (Bool×DV):=
 match op with
 | .add=>some (true,⟨.int k,k.wrap (a+b)⟩)
 | .sub=>some (true,⟨.int k,k.wrap (a - b)⟩)
 | .mul=>some (true,⟨.int k,k.wrap (a*b)⟩)
 | .quo=>some (!decide (b=0),⟨.int k,k.wrap (a.tdiv b)⟩)
 | .rem=>some (!decide (b=0),⟨.int k,(a.tmod b:Int)⟩)
 | .and=>some (true,⟨.int k,eU k (· &&& ·) a b⟩)
 | .or=>some (true,⟨.int k,eU k (· ||| ·) a b⟩)
 | .xor=>some (true,⟨.int k,eU k (· ^^^ ·) a b⟩)
 | .andNot=>some (true,⟨.int k,eU k (fun x y=>x&&& ~~~y) a b⟩)
 | .eql=>some (true,⟨.bool,a== b⟩)
 | .neq=>some (true,⟨.bool,a != b⟩)
 | .lss=>some (true,⟨.bool,decide (a<b)⟩)
 | .leq=>some (true,⟨.bool,decide (a≤b)⟩)
 | .gtr=>some (true,⟨.bool,decide (a>b)⟩)
 | .geq=>some (true,⟨.bool,decide (a≥b)⟩)
 |_=>none
def Ee (op:BinOp) (k:IntKind) (a b:Int):Option (Bool×DV):=
 match op with
 | .shl=>some (!decide (b<0),⟨.int k,k.wrap (a*2^(min b.toNat k.bits))⟩)
 | .shr=>some (!decide (b<0),⟨.int k,(a.fdiv (2^(min b.toNat k.bits)):Int)⟩)
 |_=>none
def RZ (op:BinOp) (a b:ByteArray):Option (Bool×DV):=
 match op with
 | .add=>some (decide (a.size+b.size≤4611686018427387904),⟨.str,a++b⟩)
 | .eql=>some (true,⟨.bool,a.toList== b.toList⟩)
 | .neq=>some (true,⟨.bool,!(a.toList== b.toList)⟩)
 | .lss=>some (true,⟨.bool,Op.bytesLess a.toList b.toList⟩)
 | .leq=>some (true,⟨.bool,Op.bytesLess a.toList b.toList||a.toList== b.toList⟩)
 | .gtr=>some (true,⟨.bool,!(Op.bytesLess a.toList b.toList||a.toList== b.toList)⟩)
 | .geq=>some (true,⟨.bool,!(Op.bytesLess a.toList b.toList)⟩)
 |_=>none
def Ty.wT:Ty→Bool
 | .int _=>true
 | .bool=>true
 | .str=>true
 | .unit=>true
 | .eos _=>true
 | .pair a b=>a.wT&&b.wT
 | .arr _ t=>t.wT
 |_=>false
def Ty.Sm:Ty→Bool
 | .int _=>true
 | .bool=>true
 | .str=>true
 | .unit=>true
 | .eos _=>true
 | .pair a b=>a.Sm&&b.Sm
 |_=>false
def eqT:(t:Ty)→t.den→t.den→Option Bool
 | .int _,a,b=>some (decide ((a:Int)=b))
 | .bool,a,b=>some (a== b)
 | .str,a,b=>some (a== b)
 | .unit,_,_=>some true
 | .eos _,_,_=>some true
 | .pair s t,a,b=>match eqT s a.1 b.1,eqT t a.2 b.2 with|some x,some y=>some (x&&y)|_,_=>none
 | .arr n t,a,b=>(List.range n).foldr (fun i r=>match eqT t (a.getD i t.dflt) (b.getD i t.dflt),r with|some x,some y=>some (x&&y)|_,_=>none) (some true)
 |_,_,_=>none
def uh (op:BinOp) (c:Bool) (r:Bool):Option (Bool×DV):=
 match op with
 | .eql=>some (c,⟨.bool,r⟩)
 | .neq=>some (c,⟨.bool,!r⟩)
 |_=>none
def IQ (st:St):SV→Option (Bool×Bool)
 | .p ⟨.sl _,l⟩=>some (!l.isEmpty,false)
 | .va s _=>match st.box s with|some ⟨.dyn _,x⟩=>some (true,x.1)|_=>none
 | .nil=>some (true,true)
 |_=>none
def IU:SV→Option Bool
 | .p ⟨.ref _,r⟩=>some r.isNone
 | .p ⟨.slf,_⟩=>some true
 | .sd ⟨.sf _ _ _,x⟩=>some x
 | .pb _ _ _=>some false
 | .nilp=>some true
 |_=>none
def IV:SV→Option Bool
 | .mp _ _ _=>some false
 | .nilm=>some true
 |_=>none
def Qq (st:St) (tx:Option Ty) (op:BinOp):SV→SV→Option (Bool×DV)
 | .nil,x=>match tx with|some (.sl _)=>(IQ st x).bind fun r=>uh op r.1 r.2|_=>none
 | .nilp,x=>match tx with|some (.ref _)=>(IU x).bind fun r=>uh op true r|_=>none
 | .nilm,x=>match tx with|some (.mp _ _ _)=>(IV x).bind fun r=>uh op true r|_=>none
 |_,_=>none
def SV.El:SV→Bool
 | .nil=>true
 | .nilp=>true
 | .nilm=>true
 |_=>false
def R8 (op:BinOp):SV→SV→Option (Bool×DV)
 | .pb s t pa,.pb s' t' pa'=>bif Nat.beq s s'&&decide (t=t')&&decide (pa=pa') then uh op true true else none
 | .sd ⟨.sf s t pa,x⟩,.pb s' t' pa'=>bif Nat.beq s s'&&decide (t=t')&&decide (pa=pa') then uh op true (!x) else none
 |_,_=>none
def Jb (r:Option Nat):Option (Bool×DV):=some (r.isSome,⟨.flt,(r.getD 0:Nat)⟩)
def SH (op:BinOp) (a b:Nat):Option (Bool×DV):=
 match op with
 | .add=>Jb (FloatKind.f64.format.add a b)
 | .sub=>Jb (FloatKind.f64.format.sub a b)
 | .mul=>Jb (FloatKind.f64.format.mul a b)
 | .quo=>Jb (FloatKind.f64.format.div a b)
 | .eql=>some (true,⟨.bool,FloatKind.f64.format.order a b== some .eq⟩)
 | .neq=>some (true,⟨.bool,FloatKind.f64.format.order a b != some .eq⟩)
 | .lss=>some (true,⟨.bool,FloatKind.f64.format.order a b== some .lt⟩)
 | .leq=>some (true,⟨.bool,FloatKind.f64.format.order a b== some .lt||FloatKind.f64.format.order a b== some .eq⟩)
 | .gtr=>some (true,⟨.bool,FloatKind.f64.format.order a b== some .gt⟩)
 | .geq=>some (true,⟨.bool,FloatKind.f64.format.order a b== some .gt||FloatKind.f64.format.order a b== some .eq⟩)
 |_=>none
def binop (st:St) (tx:Option Ty) (op:BinOp) (x y:SV):Option (Bool×DV):=
 match x,y with
 | .p ⟨.int k,a⟩,.p ⟨.int k',b⟩=>
  match op with
  | .shl=>Ee .shl k a b
  | .shr=>Ee .shr k a b
  |_=>if k=k' then SA op k a b else none
 | .p ⟨.str,a⟩,.p ⟨.str,b⟩=>RZ op a b
 | .p ⟨.flt,a⟩,.p ⟨.flt,b⟩=>SH op a b
 | .p ⟨t,a⟩,.p ⟨t',b⟩=>
  if h:t'=t then
   bif t.wT&&decide (tx=some t) then
    match eqT t a (h ▸ b) with
    |some r=>uh op true r
    |none=>none
   else none
  else none
 |x,y=>bif y.El then Qq st tx op y x
  else bif x.El then Qq st tx op x y
  else match tx with
   |some (.ref _)=>R8 op x y
   |_=>none
def unop (op:UnOp):SV→Option DV
 | .p ⟨.int k,n⟩=>
  match op with
  | .neg=>some ⟨.int k,k.wrap (0 - n)⟩
  | .xor=>some ⟨.int k,eU k (· ^^^ ·) (if k.signed then -1 else k.max) n⟩
  |_=>none
 | .p ⟨.bool,b⟩=>match op with| .not=>some ⟨.bool,!b⟩|_=>none
 |_=>none
def aR:Nat→Path
 |0=> [.fst]
 |n+1=> .snd::aR n
def lq:Ty→Path→Option Ty
 |t,[]=>some t
 | .pair a _,.fst::p=>lq a p
 | .pair _ b,.snd::p=>lq b p
 | .arr _ t,.ix _::p=>lq t p
 | .dyn t,.ix _::p=>lq t p
 |_,_=>none
def partOf (pa:Path):SV→Option SV
 | .pb s t q=>(lq t pa).map fun u=> .pb s u (q++pa)
 | .p ⟨.ref t,some x⟩=>(iI t x pa).map fun d=> .p ⟨.ref d.1,some d.2⟩
 |_=>none
def pR:SV→Option Ty
 | .pb _ t _=>some t
 | .p ⟨.ref t,_⟩=>some t
 |_=>none
def nzT (v:SV):Bool:=match pR v with
 |some u=>u.size != 0
 |none=>false
def KO (st:St) (s:Nat):Path→Bool
 | []=>match st.box s with|some ⟨.dyn _,_⟩=>true|some ⟨.arr _ _,_⟩=>true|_=>false
 |_::_=>true
def Kl (E:Env) (st:St) (T:TypeId) (x:SV) (i:SV):Option (Bool×SV):=
 match E.T T,i with
 |some (.arr n t),.p ⟨.int _,i⟩=>if pR x=some (.arr n t) then
   match partOf [.ix (i:Int).toNat] x with
   |some v=>some (decide (0≤(i:Int))&&decide ((i:Int)<n),v)
   |none=>none
  else none
 |some (.sl u),.p ⟨.int _,i⟩=>
  match x with
  | .p ⟨.sl t,l⟩=>if t≠u then none else some (decide (0≤(i:Int))&&decide ((i:Int)<l.length),.p ⟨.ref t,some (l.getD (i:Int).toNat t.dflt)⟩)
  | .va s t=>match st.box s with
   |some ⟨.dyn _,l⟩=>if t≠u then none else some (decide (0≤(i:Int))&&decide ((i:Int)<l.2.length),.pb s t [.ix (i:Int).toNat])
   |_=>none
  | .vs s t pa lo n=>if t≠u∨KO st s pa=false then none else some (decide (0≤(i:Int))&&decide ((i:Int)<n),.pb s t (pa++ [.ix (lo+(i:Int).toNat)]))
  | .nil=>some (false,.p ⟨.ref u,none⟩)
  | .sd ⟨.rid p t,k⟩=>match rowOf st p t k with
   |some r=>if t≠u then none else some (decide (0≤(i:Int))&&decide ((i:Int)<r.2.length),.pb p t [.ix k,.ix (i:Int).toNat])
   |none=>none
  |_=>none
 |_,_=>none
def iJ (n:Int):Option SV→Option Int
 |none=>some n
 |some (.p ⟨.int _,i⟩)=>some i
 |_=>none
def inB (l h n:Int):Bool:=decide (0≤l)&&decide (l≤h)&&decide (h≤n)
def MK (st:St) (tx:Option Ty) (x:SV) (lo hi:Option SV):Option (Bool×SV):=
 match tx,x with
 |some .str,.p ⟨.str,s⟩=>match iJ 0 lo,iJ s.size hi with
  |some l,some h=>some (inB l h s.size,.p ⟨.str,s.extract l.toNat h.toNat⟩)
  |_,_=>none
 |some (.sl u),.p ⟨.sl t,s⟩=>match iJ 0 lo,iJ s.length hi with
  |some l,some h=>if t=u then some (inB l h s.length,.p ⟨.sl t,(s.drop l.toNat).take (h.toNat - l.toNat)⟩) else none
  |_,_=>none
 |some (.sl u),.va g t=>match st.box g with
  |some ⟨.dyn _,s⟩=>match iJ 0 lo,iJ s.2.length hi with
   |some l,some h=>if t=u then some (inB l h s.2.length,.vs g t [] l.toNat (h.toNat - l.toNat)) else none
   |_,_=>none
  |_=>none
 |some (.sl u),.vs g t pa a n=>match iJ 0 lo,iJ n hi with
   |some l,some h=>if t=u then some (inB l h n,.vs g t pa (a+l.toNat) (h.toNat - l.toNat)) else none
   |_,_=>none
 |some (.sl _),.nil=>match iJ 0 lo,iJ 0 hi with
   |some l,some h=>some (inB l h 0,.nil)
   |_,_=>none
 |some (.ref (.arr m u)),.pb g (.arr n t) pa=>match iJ 0 lo,iJ n hi with
   |some l,some h=>if t=u∧n=m then some (inB l h n,.vs g t pa l.toNat (h.toNat - l.toNat)) else none
   |_,_=>none
 |some (.arr m u),.pb g (.arr n t) pa=>match iJ 0 lo,iJ n hi with
   |some l,some h=>if t=u∧n=m then some (inB l h n,.vs g t pa l.toNat (h.toNat - l.toNat)) else none
   |_,_=>none
 |_,_=>none
def OL (st:St) (n:Nat) (u:Ty):SV→Option (Bool×SV)
 | .p ⟨.sl t,l⟩=>bif decide (t=u) then some (decide (n≤l.length),.p ⟨.ref (.arr n t),some (l.take n)⟩) else none
 | .vs s t pa lo k=>bif decide (t=u)&&KO st s pa then some (decide (n≤k),.pb s (.arr n t) (pa++ [.sub lo n])) else none
 |_=>none
def Ty.has:Ty→Nat→Bool
 | .arr n _,i=>decide (i<n)
 |_,_=>true
def Ty.known:Ty→Bool
 | .pair a b=>a.known&&b.known
 | .arr _ t=>t.known
 | .junk _=>false
 |_=>true
def uD (j4:Bool):DV→List (Nat×SV)→Option DV
 |x,[]=>some x
 |x,(i,v)::r=>match lq x.1.frz (bif j4 then [.ix i] else aR i) with
  |some u=>match zP u v with
   |some d=>bif x.1.frz.has i&&decide (d.1.frz=u)&&d.1.known then (qR x.1 x.2 (bif j4 then [.ix i] else aR i) d).bind fun y=>uD j4 y r else none
   |none=>none
  |none=>none
def Ty.j4:Ty→Bool
 | .arr .. =>true
 |_=>false
def Bh:SV→Option Bool
 | .p ⟨.bool,b⟩=>some b
 |_=>none
def Rt (c a b:SV):Option (Bool×DV):=
 match Bh c,Bh a,Bh b with
 |some c,some x,some y=>some (true,⟨.bool,bif c then x else y⟩)
 |some c,some x,none=>some (c,⟨.bool,x⟩)
 |some c,none,some y=>some (!c,⟨.bool,y⟩)
 |_,_,_=>none
def Sv (E:Env) (st:St) (T:TypeId):SV→Option DV
 | .p ⟨.str,s⟩=>if E.T T=some .str then some ⟨.int .i64,(s.size:Int)⟩ else none
 | .vs _ _ _ _ n=>match E.T T with|some (.sl _)=>some ⟨.int .i64,(n:Int)⟩|_=>none
 | .mp s _ _=>match E.T T,st.box s with|some (.mp _ _ _),some ⟨.map _ _,l⟩=>some ⟨.int .i64,(l.length:Int)⟩|_,_=>none
 | .nil=>match E.T T with|some (.sl _)=>some ⟨.int .i64,(0:Int)⟩|_=>none
 |v=>match E.T T with
  |some (.arr n _)=>some ⟨.int .i64,(n:Int)⟩
  |some (.sl _)=>(Cj st v).map fun s=>⟨.int .i64,(s.2.length:Int)⟩
  |_=>none
def maxS:Bool→SV→List SV→Option DV
 |_,.p d,[]=>some d
 |mx,.p ⟨.int k,x⟩,.p ⟨.int _,y⟩::r=>maxS mx (.p ⟨.int k,bif mx then (bif decide (y>x) then y else x) else (bif decide (y<x) then y else x)⟩) r
 |_,_,_=>none
def eqK (t:Ty) (a b:t.den):Bool:=(eqT t a b).getD false
end Go.Own
