/- What is proved: the evaluator of the translated code, and that it is sound, part 3. Conditions: those that each theorem names. -/
import Derived.Test.YtnighkkdmgmcnaaGreatW2
set_option linter.unusedVariables false
set_option linter.unusedSimpArgs false
namespace Go.Own
def site (j:Nat):Nat:=1000000+j
inductive AV where
 |val (d:DV)
 |va (s:Nat) (t:Ty)
 |vs (s:Nat) (t:Ty) (pa:Path) (lo n:Nat)
 |pb (s:Nat) (t:Ty) (pa:Path)
 |mp (s:Nat) (k v:Ty)
 |nil
 |nilp
 |clo (f:FuncId) (caps:List AV)
 deriving Inhabited
inductive RV where
 |val (d:DV)
 |sd (d:DV)
 |va (s:Nat) (t:Ty)
 |vs (s:Nat) (t:Ty) (pa:Path) (lo n:Nat)
 |pb (s:Nat) (t:Ty) (pa:Path)
 |mp (s:Nat) (k v:Ty)
 |nil
 |nilp
 deriving Inhabited
structure Res where
 rs:List RV
 bs:List (Option DV)
 fs:List DV
inductive Brn (α:Type) where
 |one (c:Bool) (x:α)
 |ite (b:Bool) (l r:Brn α)
def Brn.res {α:Type}:Brn α→Bool×α
 | .one c x=>(c,x)
 | .ite b l r=>bif b then l.res else r.res
def Brn.map {α β:Type} (f:α→Option β):Brn α→Option (Brn β)
 | .one c x=>(f x).map fun y=> .one c y
 | .ite b l r=>match l.map f,r.map f with
  |some x,some y=>some (.ite b x y)
  |_,_=>none
theorem Brn.Qu {α β:Type} {f:α→Option β}:∀ {x:Brn α} {y:Brn β},x.map f=some y→y.res.1=x.res.1∧f x.res.2=some y.res.2:=by
 intro x
 induction x with
 |one c x=>
  intro y h
  simp only [Brn.map,Option.map_eq_some_iff] at h
  obtain ⟨z,hz,rfl⟩:=h
  exact ⟨rfl,hz⟩
 |ite b l r ihl ihr=>
  intro y h
  simp only [Brn.map] at h
  split at h
  ·rename_i u v hu hv
   cases h
   cases b
   ·have:=ihr hv; exact this
   ·have:=ihl hu; exact this
  ·cases h
def Ty.flat:Ty→Bool
 | .pair a b=>a.flat&&b.flat
 | .arr _ t=>t.flat
 | .sl _=>false
 | .ref _=>false
 | .dyn t=>t.flat
 | .pool t=>t.flat
 | .map k v=>k.flat&&v.flat
 |_=>true
def RV.flat:RV→Bool
 | .val d=>d.1.flat
 | .sd d=>d.1.flat
 |_=>true
def Res.flat (r:Res):Bool:=r.rs.all RV.flat&&r.bs.all (fun b=>match b with|some d=>d.1.flat|none=>true)&&r.fs.all (·.1.flat)
def Brn.all {α:Type} (p:α→Bool):Brn α→Bool
 | .one _ x=>p x
 | .ite _ l r=>l.all p&&r.all p
theorem Brn.EB {α:Type} {p:α→Bool}:∀ {x:Brn α},x.all p=true→p x.res.2=true
 | .one _ _,h=>h
 | .ite b l r,h=>by
  simp only [Brn.all,Bool.and_eq_true] at h
  cases b
  ·exact Brn.EB (x:=r) h.2
  ·exact Brn.EB (x:=l) h.1
def Ty.ren (ρ:Nat→Nat):Ty→Ty
 | .pair a b=> .pair (a.ren ρ) (b.ren ρ)
 | .arr n t=> .arr n (t.ren ρ)
 | .sf s t pa=> .sf (ρ s) t pa
 | .vw s t=> .vw (ρ s) t
 | .pt s t pa=> .pt (ρ s) t pa
 | .mp s k v=> .mp (ρ s) k v
 | .rid s t=> .rid (ρ s) t
 | .dyn t=> .dyn (t.ren ρ)
 |t=>t
theorem Ty.wK {ρ:Nat→Nat}:∀ {t:Ty},(mentions t).isEmpty=true→t.ren ρ=t:=by
 intro t
 induction t with
 |pair a b iha ihb=>
  intro h
  simp only [mentions,List.isEmpty_iff,List.append_eq_nil_iff] at h
  simp only [Ty.ren,iha (List.isEmpty_iff.2 h.1),ihb (List.isEmpty_iff.2 h.2)]
 |arr n t ih=>intro h; simp only [Ty.ren]; rw [ih h]
 |sf r t pa=>intro h; cases h
 |vw r t=>intro h; cases h
 |pt r t pa=>intro h; cases h
 |mp r k v=>intro h; cases h
 |rid r t=>intro h; cases h
 |dyn t ih=>intro h; simp only [Ty.ren]; rw [ih h]
 |_=>intro _; rfl
def tH (ρ:Nat→Nat):(t:Ty)→t.den→(t.ren ρ).den
 | .pair a b,x=>(tH ρ a x.1,tH ρ b x.2)
 | .arr _ t,l=>jV (!(mentions t).isEmpty) (fun h=>congrArg Ty.den (Ty.wK (by cases e:(mentions t).isEmpty<;>rw [e] at h<;>first|rfl|cases h))) l (tH ρ t)
 | .sf _ _ _,x=>x
 | .vw _ _,x=>x
 | .pt _ _ _,x=>x
 | .mp _ _ _,x=>x
 | .rid _ _,x=>x
 | .dyn t,x=>(x.1,jV (!(mentions t).isEmpty) (fun h=>congrArg Ty.den (Ty.wK (by cases e:(mentions t).isEmpty<;>rw [e] at h<;>first|rfl|cases h))) x.2 (tH ρ t))
 | .pool _,x=>x
 | .int _,x=>x
 | .bool,x=>x
 | .str,x=>x
 | .flt,x=>x
 | .unit,x=>x
 | .eos _,x=>x
 | .sl _,x=>x
 | .ref _,x=>x
 | .nif,x=>x
 | .slf,x=>x
 | .nsl _,x=>x
 | .junk _,x=>x
 | .map _ _,x=>x
theorem Dc (ρ:Nat→Nat):∀ {t:Ty} {x:t.den},(mentions t).isEmpty=true→(⟨t.ren ρ,tH ρ t x⟩:DV)=⟨t,x⟩:=by
 intro t
 induction t with
 |pair a b iha ihb=>
  intro x h
  simp only [mentions,List.isEmpty_iff,List.append_eq_nil_iff] at h
  have h1:=iha (x:=x.1) (List.isEmpty_iff.2 h.1)
  have h2:=ihb (x:=x.2) (List.isEmpty_iff.2 h.2)
  simp only [Ty.ren,tH]
  obtain ⟨p1,q1⟩:=Sigma.mk.inj h1
  obtain ⟨p2,q2⟩:=Sigma.mk.inj h2
  generalize tH ρ a x.1=y1 at q1
  generalize tH ρ b x.2=y2 at q2
  revert y1 y2
  rw [p1,p2]
  intro y1 q1 y2 q2
  cases q1; cases q2; rfl
 |arr n t ih=>
  intro l h
  have hc:(!(mentions t).isEmpty)=false:=by rw [show (mentions t).isEmpty=true from h]; rfl
  exact Az (Ty.wK (t:=t) h) hc _ l _
 |sf r t pa=>intro x h; cases h
 |vw r t=>intro x h; cases h
 |pt r t pa=>intro x h; cases h
 |mp r k v=>intro x h; cases h
 |rid r t=>intro x h; cases h
 |dyn t ih=>
  intro l h
  have hc:(!(mentions t).isEmpty)=false:=by rw [show (mentions t).isEmpty=true from h]; rfl
  exact Ay (Ty.wK (t:=t) h) hc _ l _
 |_=>intro x _; rfl
theorem FI (ρ:Nat→Nat) (t:Ty) (x:(Ty.dyn t).den):tH ρ (.dyn t) x=(x.1,x.2.map (tH ρ t)):=by
 show (x.1,jV _ _ x.2 (tH ρ t))=_
 refine congrArg (Prod.mk x.1) (nK fun hc x=> ?_)
 have:=Dc ρ (t:=t) (x:=x) (by cases e:(mentions t).isEmpty<;>rw [e] at hc<;>first|rfl|cases hc)
 exact (Sigma.mk.inj this).2
theorem zU (ρ:Nat→Nat) (n:Nat) (t:Ty) (l:List t.den):tH ρ (.arr n t) l=l.map (tH ρ t):=by
 show jV _ _ l (tH ρ t)=_
 refine nK fun hc x=> ?_
 have:=Dc ρ (t:=t) (x:=x) (by cases e:(mentions t).isEmpty<;>rw [e] at hc<;>first|rfl|cases hc)
 exact (Sigma.mk.inj this).2
theorem sS (ρ:Nat→Nat):∀ t:Ty,(t.ren ρ).den=t.den:=by
 intro t
 induction t with
 |pair a b iha ihb=>show ((a.ren ρ).den×(b.ren ρ).den)=_; rw [iha,ihb]
 |arr n t ih=>show List (t.ren ρ).den=_; rw [ih]
 |dyn t ih=>show (Bool×List (t.ren ρ).den)=_; rw [ih]
 |_=>rfl
theorem Km {A B:Type} (e:B=A) {f:A→B} (hf:∀ x,HEq (f x) x) (l:List A):HEq (l.map f) l:=by
 subst e
 have:f=id:=funext fun x=>eq_of_heq (hf x)
 rw [this,List.map_id]
theorem Gs {A B C D:Type} (e1:B=A) (e2:D=C) {x:A} {y:C} {u:B} {v:D} (h1:HEq u x) (h2:HEq v y):HEq (u,v) (x,y):=by
 subst e1; subst e2
 cases h1; cases h2; rfl
theorem M4 (ρ:Nat→Nat):∀ (t:Ty) (x:t.den),HEq (tH ρ t x) x:=by
 intro t
 induction t with
 |pair a b iha ihb=>intro x; exact Gs (sS ρ a) (sS ρ b) (iha x.1) (ihb x.2)
 |arr n t ih=>intro x; rw [zU]; exact Km (sS ρ t) ih x
 |dyn t ih=>intro x; rw [FI]; exact Gs rfl (congrArg List (sS ρ t)) HEq.rfl (Km (sS ρ t) ih x.2)
 |_=>intro x; exact HEq.rfl
def DV.ren (ρ:Nat→Nat) (d:DV):DV:=bif (mentions d.1).isEmpty then d else ⟨d.1.ren ρ,cast (sS ρ d.1).symm d.2⟩
theorem DV.M0 (ρ:Nat→Nat) (d:DV):d.ren ρ=bif (mentions d.1).isEmpty then d else ⟨d.1.ren ρ,tH ρ d.1 d.2⟩:=by
 have:cast (sS ρ d.1).symm d.2=tH ρ d.1 d.2:=eq_of_heq ((cast_heq _ _).trans (M4 ρ d.1 d.2).symm)
 unfold DV.ren; rw [this]
def mR (st:St):Nat→List Nat→List Nat→List Nat
 |0,_,acc=>acc
 |_,[],acc=>acc
 |n+1,s::r,acc=>bif acc.any (Nat.beq s) then mR st n r acc
  else mR st n (r++(match st.box s with|some d=>mentions d.1|none=> [])) (acc++ [s])
def idxOf (s:Nat):List Nat→Nat
 | []=>0
 |x::r=>bif Nat.beq x s then 0 else idxOf s r+1
def toC (sites:List Nat) (s:Nat):Nat:=site (idxOf s sites)
def ofC (sites:List Nat) (dst:Nat) (q:Nat):Nat:=match sites[q - 1000000]? with
 |some s=>s
 |none=>4096*(q - 1000000+1 - sites.length)+dst
def qo (own:Bool):SV→Bool
 | .va .. =>own
 | .vs .. =>own
 | .pb .. =>own
 | .nil=>own
 | .nilp=>own
 | .mp .. =>true
 |_=>false
def qX (ρ:Nat→Nat):SV→Option AV
 | .p d=>some (.val d)
 | .va s t=>some (.va (ρ s) t)
 | .vs s t pa lo n=>some (.vs (ρ s) t pa lo n)
 | .pb s t pa=>some (.pb (ρ s) t pa)
 | .mp s k v=>some (.mp (ρ s) k v)
 | .nil=>some .nil
 | .nilp=>some .nilp
 |_=>none
def u7 (ρ:Nat→Nat):List SV→Option (List AV)
 | []=>some []
 |v::vs=>match qX ρ v,u7 ρ vs with
  |some a,some r=>some (a::r)
  |_,_=>none
def Uc (E:Env) (ρ:Nat→Nat) (fs:List Pm) (own:Bool) (T:TypeId):SV→Option AV
 | .clo f caps=>(u7 ρ caps).map fun cs=> .clo f cs
 |v=>bif qo own v then qX ρ v else (oK (E.T T) (qU fs v)).map .val
def Dm (E:Env) (ρ:Nat→Nat) (fs:List Pm) (f:FuncId):Nat→List TypeId→List SV→Option (List AV)
 |_,_,[]=>some []
 |i,Ts,v::vs=>match Uc E ρ fs (E.own f i) (Ts.headD 0) v,Dm E ρ fs f (i+1) Ts.tail vs with
  |some a,some r=>some (a::r)
  |_,_=>none
def uf (E:Env) (f:FuncId):Nat→List SV→List Nat
 |_,[]=> []
 |i,.clo _ caps::r=>caps.flatMap SV.sites++uf E f (i+1) r
 |i,v::r=>bif qo (E.own f i) v then v.sites++uf E f (i+1) r else uf E f (i+1) r
def Bf (E:Env) (f:FuncId):Nat→List SV→List SV
 |_,[]=> []
 |i,.clo _ _::r=>Bf E f (i+1) r
 |i,v::r=>bif qo (E.own f i) v then Bf E f (i+1) r else v::Bf E f (i+1) r
abbrev aH:=FuncId→List AV→List DV→Option (Brn Res)
def MZ (σ:Nat→Nat):RV→SV
 | .val d=> .p d
 | .sd d=> .sd (d.ren σ)
 | .va s t=> .va (σ s) t
 | .vs s t pa lo n=> .vs (σ s) t pa lo n
 | .pb s t pa=> .pb (σ s) t pa
 | .mp s k v=> .mp (σ s) k v
 | .nil=> .nil
 | .nilp=> .nilp
def JU (σ:Nat→Nat):List RV→SV
 | [r]=>MZ σ r
 |rs=> .tup (rs.map (MZ σ))
def iB:List Nat→List (Option DV)→List Pm
 |s::ss,none::ds=> .kill s:: .del s::iB ss ds
 |_::ss,some _::ds=>iB ss ds
 |_,_=> []
def lH (σ:Nat→Nat):List Nat→List (Option DV)→List Pm
 |s::ss,some d::ds=> .ins s (d.ren σ)::lH σ ss ds
 |_::ss,none::ds=>lH σ ss ds
 |_,_=> []
def kM (σ:Nat→Nat):Nat→List DV→List Pm
 |_,[]=> []
 |j,d::r=> .ins (σ (site j)) (d.ren σ)::kM σ (j+1) r
def gG (σ:Nat→Nat):Nat→List DV→List Pm
 |_,[]=> []
 |j,_::r=> .kill (σ (site j))::gG σ (j+1) r
def JS:RV→List Nat
 | .sd d=>mentions d.1
 | .va s _=> [s]
 | .vs s _ _ _ _=> [s]
 | .pb s _ _=> [s]
 | .mp s _ _=> [s]
 |_=> []
def inR (r:Res) (p:Nat):Bool:=Nat.ble 1000000 p&&match r.bs[p - 1000000]? with
 |some (some _)=>true
 |some none=>false
 |none=>Nat.blt p (site (r.bs.length+r.fs.length))
def Ad:Option DV→List Nat
 |some d=>mentions d.1
 |none=> []
def mY (r:Res):Bool:=(r.rs.flatMap JS).all (inR r)&&(r.bs.flatMap Ad).all (inR r)&&(r.fs.flatMap fun d=>mentions d.1).all (inR r)
def pG:List Nat→List (Option DV)→List Nat
 |s::ss,some _::ds=>s::pG ss ds
 |_::ss,none::ds=>pG ss ds
 |_,_=> []
def zn (sites:List Nat) (σ:Nat→Nat) (r:Res):Bool:=(List.range r.fs.length).all fun i=>Nat.blt (σ (site (sites.length+i))) 1000000&& !(pG sites r.bs).any (Nat.beq (σ (site (sites.length+i))))
def Rs (sites:List Nat) (σ:Nat→Nat) (hasDst:Bool) (fs:List Pm) (r:Res):Option Ef:=
 bif Nat.beq r.bs.length sites.length&&(hasDst||r.fs.isEmpty)&&zn sites σ r&&mY r then
  some ⟨fs++iB sites r.bs++gG σ sites.length r.fs++lH σ sites r.bs++kM σ sites.length r.fs,some (JU σ r.rs)⟩ else none
def nodupB:List Nat→Bool
 | []=>true
 |s::r=> !r.any (Nat.beq s)&&nodupB r
def rZ:AV→List Nat
 | .va s _=> [s]
 | .vs s _ _ _ _=> [s]
 | .pb s _ _=> [s]
 | .mp s _ _=> [s]
 |_=> []
def xw:AV→List Nat
 | .clo _ caps=>caps.flatMap rZ
 |a=>rZ a
def zq (n:Nat) (as:List AV) (bs:List DV):Bool:=(as.flatMap xw).all (fun p=>Nat.blt p (site n))&&(bs.flatMap fun d=>mentions d.1).all fun p=>Nat.blt p (site n)
def Oz (E:Env) (D:aH) (dst:Option Nat) (f:FuncId) (Ts:List TypeId) (vs:List SV) (st:St):Option (Brn Ef):=
 let sites:=mR st 1000 (uf E f 0 vs) []
 let ρ:=toC sites
 let σ:=ofC sites (dst.getD 0)
 match oZ st (Bf E f 0 vs) with
 |some fs=>bif o9 (fs.flatMap Pm.fs) sites&&nodupB sites&&Nat.ble vs.length 1000 then
  match Dm E ρ fs f 0 Ts vs,sites.mapM (aN fs st).box with
  |some as,some bs=>bif zq sites.length as (bs.map (DV.ren ρ)) then (match D f as (bs.map (DV.ren ρ)) with
   |some b=>b.map (Rs sites σ dst.isSome (bif b.all Res.flat then [] else fs))
   |none=>none) else none
  |_,_=>none
  else none
 |none=>none
def GX (st:St) (o:Oper):Option (FuncId×List TypeId×List SV):=
 match o.op with
 | .call c=>match c.callee with
  | .value (.func f)=>some (f,c.argTypes.toList,c.args.toList.map (ev st))
  | .value x=>match ev st x with
   | .clo f caps=>some (f,c.argTypes.toList,c.args.toList.map (ev st)++caps)
   |_=>none
  |_=>none
 |_=>none
def SV.Ua:SV→Bool
 | .pb .. =>true
 | .p _=>true
 |_=>false
def Oy (st:St) (o:Oper):Bool:=
 match o.op with
 | .call c=>match c.callee with
  | .value x=>match ev st x with
   | .clo _ caps=>caps.all SV.Ua
   |_=>true
  |_=>true
 |_=>true
def FW (E:Env) (D:aH) (o:Oper) (st:St):Option (Brn Ef):=
 match GX st o with
 |some (f,Ts,vs)=>bif Oy st o then Oz E D o.dst f Ts vs st else none
 |none=>(opP E o st).map fun r=> .one r.1 r.2
end Go.Own
