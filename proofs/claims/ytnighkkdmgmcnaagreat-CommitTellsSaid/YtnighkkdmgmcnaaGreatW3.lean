/- What is proved: the evaluator of the translated code, and that it is sound, part 3. Conditions: those that each theorem names. -/
import Derived.Test.YtnighkkdmgmcnaaGreatW2
set_option linter.unusedVariables false
set_option linter.unusedSimpArgs false
namespace Go.Own
def site (j:Nat):Nat:=1000000+j
inductive AV where
 |val (d:DV)
 |va (s:Nat) (t:Ty)
 |vs (s:Nat) (t:Ty) (pa:Path) (lo n:Nat)
 |pb (s:Nat) (t:Ty) (pa:Path)
 |mp (s:Nat) (k v:Ty)
 |nil
 |nilp
 |clo (f:FuncId) (caps:List AV)
 deriving Inhabited
inductive RV where
 |val (d:DV)
 |sd (d:DV)
 |va (s:Nat) (t:Ty)
 |vs (s:Nat) (t:Ty) (pa:Path) (lo n:Nat)
 |pb (s:Nat) (t:Ty) (pa:Path)
 |mp (s:Nat) (k v:Ty)
 |nil
 |nilp
 deriving Inhabited
structure Res where
 rs:List RV
 bs:List (Option DV)
 fs:List DV
inductive Brn (α:Type) where
 |one (c:Bool) (x:α)
 |ite (b:Bool) (l r:Brn α)
def Brn.res {α:Type}:Brn α→Bool×α
 | .one c x=>(c,x)
 | .ite b l r=>bif b then l.res else r.res
def Brn.map {α β:Type} (f:α→Option β):Brn α→Option (Brn β)
 | .one c x=>(f x).map fun y=> .one c y
 | .ite b l r=>match l.map f,r.map f with
  |some x,some y=>some (.ite b x y)
  |_,_=>none
theorem Brn.Qu {α β:Type} {f:α→Option β}:∀ {x:Brn α} {y:Brn β},x.map f=some y→y.res.1=x.res.1∧f x.res.2=some y.res.2:=by
 intro x
 induction x with
 |one c x=>
  intro y h
  simp only [Brn.map,Option.map_eq_some_iff] at h
  obtain ⟨z,hz,rfl⟩:=h
  exact ⟨rfl,hz⟩
 |ite b l r ihl ihr=>
  intro y h
  simp only [Brn.map] at h
  split at h
  ·rename_i u v hu hv
   cases h
   cases b
   ·have:=ihr hv; exact this
   ·have:=ihl hu; exact this
  ·cases h
def Ty.flat:Ty→Bool
 | .pair a b=>a.flat&&b.flat
 | .arr _ t=>t.flat
 | .sl _=>false
 | .ref _=>false
 | .dyn t=>t.flat
 | .pool t=>t.flat
 | .map k v=>k.flat&&v.flat
 |_=>true
def RV.flat:RV→Bool
 | .val d=>d.1.flat
 | .sd d=>d.1.flat
 |_=>true
def Res.flat (r:Res):Bool:=r.rs.all RV.flat&&r.bs.all (fun b=>match b with|some d=>d.1.flat|none=>true)&&r.fs.all (·.1.flat)
def Brn.all {α:Type} (p:α→Bool):Brn α→Bool
 | .one _ x=>p x
 | .ite _ l r=>l.all p&&r.all p
theorem Brn.EI {α:Type} {p:α→Bool}:∀ {x:Brn α},x.all p=true→p x.res.2=true
 | .one _ _,h=>h
 | .ite b l r,h=>by
  simp only [Brn.all,Bool.and_eq_true] at h
  cases b
  ·exact Brn.EI (x:=r) h.2
  ·exact Brn.EI (x:=l) h.1
def Ty.ren (ρ:Nat→Nat):Ty→Ty
 | .pair a b=> .pair (a.ren ρ) (b.ren ρ)
 | .arr n t=> .arr n (t.ren ρ)
 | .sf s t pa=> .sf (ρ s) t pa
 | .vw s t=> .vw (ρ s) t
 | .pt s t pa=> .pt (ρ s) t pa
 | .mp s k v=> .mp (ρ s) k v
 | .rid s t=> .rid (ρ s) t
 | .dyn t=> .dyn (t.ren ρ)
 |t=>t
theorem Ty.wP {ρ:Nat→Nat}:∀ {t:Ty},(mentions t).isEmpty=true→t.ren ρ=t:=by
 intro t
 induction t with
 |pair a b iha ihb=>
  intro h
  simp only [mentions,List.isEmpty_iff,List.append_eq_nil_iff] at h
  simp only [Ty.ren,iha (List.isEmpty_iff.2 h.1),ihb (List.isEmpty_iff.2 h.2)]
 |arr n t ih=>intro h; simp only [Ty.ren]; rw [ih h]
 |sf r t pa=>intro h; cases h
 |vw r t=>intro h; cases h
 |pt r t pa=>intro h; cases h
 |mp r k v=>intro h; cases h
 |rid r t=>intro h; cases h
 |dyn t ih=>intro h; simp only [Ty.ren]; rw [ih h]
 |_=>intro _; rfl
def tK (ρ:Nat→Nat):(t:Ty)→t.den→(t.ren ρ).den
 | .pair a b,x=>(tK ρ a x.1,tK ρ b x.2)
 | .arr _ t,l=>jX (!(mentions t).isEmpty) (fun h=>congrArg Ty.den (Ty.wP (by cases e:(mentions t).isEmpty<;>rw [e] at h<;>first|rfl|cases h))) l (tK ρ t)
 | .sf _ _ _,x=>x
 | .vw _ _,x=>x
 | .pt _ _ _,x=>x
 | .mp _ _ _,x=>x
 | .rid _ _,x=>x
 | .dyn t,x=>(x.1,jX (!(mentions t).isEmpty) (fun h=>congrArg Ty.den (Ty.wP (by cases e:(mentions t).isEmpty<;>rw [e] at h<;>first|rfl|cases h))) x.2 (tK ρ t))
 | .pool _,x=>x
 | .int _,x=>x
 | .bool,x=>x
 | .str,x=>x
 | .flt,x=>x
 | .unit,x=>x
 | .eos _,x=>x
 | .sl _,x=>x
 | .ref _,x=>x
 | .nif,x=>x
 | .slf,x=>x
 | .nsl _,x=>x
 | .junk _,x=>x
 | .map _ _,x=>x
theorem Dk (ρ:Nat→Nat):∀ {t:Ty} {x:t.den},(mentions t).isEmpty=true→(⟨t.ren ρ,tK ρ t x⟩:DV)=⟨t,x⟩:=by
 intro t
 induction t with
 |pair a b iha ihb=>
  intro x h
  simp only [mentions,List.isEmpty_iff,List.append_eq_nil_iff] at h
  have h1:=iha (x:=x.1) (List.isEmpty_iff.2 h.1)
  have h2:=ihb (x:=x.2) (List.isEmpty_iff.2 h.2)
  simp only [Ty.ren,tK]
  obtain ⟨p1,q1⟩:=Sigma.mk.inj h1
  obtain ⟨p2,q2⟩:=Sigma.mk.inj h2
  generalize tK ρ a x.1=y1 at q1
  generalize tK ρ b x.2=y2 at q2
  revert y1 y2
  rw [p1,p2]
  intro y1 q1 y2 q2
  cases q1; cases q2; rfl
 |arr n t ih=>
  intro l h
  have hc:(!(mentions t).isEmpty)=false:=by rw [show (mentions t).isEmpty=true from h]; rfl
  exact AJ (Ty.wP (t:=t) h) hc _ l _
 |sf r t pa=>intro x h; cases h
 |vw r t=>intro x h; cases h
 |pt r t pa=>intro x h; cases h
 |mp r k v=>intro x h; cases h
 |rid r t=>intro x h; cases h
 |dyn t ih=>
  intro l h
  have hc:(!(mentions t).isEmpty)=false:=by rw [show (mentions t).isEmpty=true from h]; rfl
  exact AB (Ty.wP (t:=t) h) hc _ l _
 |_=>intro x _; rfl
theorem FP (ρ:Nat→Nat) (t:Ty) (x:(Ty.dyn t).den):tK ρ (.dyn t) x=(x.1,x.2.map (tK ρ t)):=by
 show (x.1,jX _ _ x.2 (tK ρ t))=_
 refine congrArg (Prod.mk x.1) (nK fun hc x=> ?_)
 have:=Dk ρ (t:=t) (x:=x) (by cases e:(mentions t).isEmpty<;>rw [e] at hc<;>first|rfl|cases hc)
 exact (Sigma.mk.inj this).2
theorem zY (ρ:Nat→Nat) (n:Nat) (t:Ty) (l:List t.den):tK ρ (.arr n t) l=l.map (tK ρ t):=by
 show jX _ _ l (tK ρ t)=_
 refine nK fun hc x=> ?_
 have:=Dk ρ (t:=t) (x:=x) (by cases e:(mentions t).isEmpty<;>rw [e] at hc<;>first|rfl|cases hc)
 exact (Sigma.mk.inj this).2
theorem sV (ρ:Nat→Nat):∀ t:Ty,(t.ren ρ).den=t.den:=by
 intro t
 induction t with
 |pair a b iha ihb=>show ((a.ren ρ).den×(b.ren ρ).den)=_; rw [iha,ihb]
 |arr n t ih=>show List (t.ren ρ).den=_; rw [ih]
 |dyn t ih=>show (Bool×List (t.ren ρ).den)=_; rw [ih]
 |_=>rfl
theorem Kq {A B:Type} (e:B=A) {f:A→B} (hf:∀ x,HEq (f x) x) (l:List A):HEq (l.map f) l:=by
 subst e
 have:f=id:=funext fun x=>eq_of_heq (hf x)
 rw [this,List.map_id]
theorem Gy {A B C D:Type} (e1:B=A) (e2:D=C) {x:A} {y:C} {u:B} {v:D} (h1:HEq u x) (h2:HEq v y):HEq (u,v) (x,y):=by
 subst e1; subst e2
 cases h1; cases h2; rfl
theorem M8 (ρ:Nat→Nat):∀ (t:Ty) (x:t.den),HEq (tK ρ t x) x:=by
 intro t
 induction t with
 |pair a b iha ihb=>intro x; exact Gy (sV ρ a) (sV ρ b) (iha x.1) (ihb x.2)
 |arr n t ih=>intro x; rw [zY]; exact Kq (sV ρ t) ih x
 |dyn t ih=>intro x; rw [FP]; exact Gy rfl (congrArg List (sV ρ t)) HEq.rfl (Kq (sV ρ t) ih x.2)
 |_=>intro x; exact HEq.rfl
def DV.ren (ρ:Nat→Nat) (d:DV):DV:=bif (mentions d.1).isEmpty then d else ⟨d.1.ren ρ,cast (sV ρ d.1).symm d.2⟩
theorem DV.M7 (ρ:Nat→Nat) (d:DV):d.ren ρ=bif (mentions d.1).isEmpty then d else ⟨d.1.ren ρ,tK ρ d.1 d.2⟩:=by
 have:cast (sV ρ d.1).symm d.2=tK ρ d.1 d.2:=eq_of_heq ((cast_heq _ _).trans (M8 ρ d.1 d.2).symm)
 unfold DV.ren; rw [this]
def mR (st:St):Nat→List Nat→List Nat→List Nat
 |0,_,acc=>acc
 |_,[],acc=>acc
 |n+1,s::r,acc=>bif acc.any (Nat.beq s) then mR st n r acc
  else mR st n (r++(match st.box s with|some d=>mentions d.1|none=> [])) (acc++ [s])
def idxOf (s:Nat):List Nat→Nat
 | []=>0
 |x::r=>bif Nat.beq x s then 0 else idxOf s r+1
def toC (sites:List Nat) (s:Nat):Nat:=site (idxOf s sites)
def ofC (sites:List Nat) (dst:Nat) (q:Nat):Nat:=match sites[q - 1000000]? with
 |some s=>s
 |none=>4096*(q - 1000000+1 - sites.length)+dst
def qz (own:Bool):SV→Bool
 | .va .. =>own
 | .vs .. =>own
 | .pb .. =>own
 | .nil=>own
 | .nilp=>own
 | .mp .. =>true
 |_=>false
def q9 (ρ:Nat→Nat):SV→Option AV
 | .p d=>some (.val d)
 | .va s t=>some (.va (ρ s) t)
 | .vs s t pa lo n=>some (.vs (ρ s) t pa lo n)
 | .pb s t pa=>some (.pb (ρ s) t pa)
 | .mp s k v=>some (.mp (ρ s) k v)
 | .nil=>some .nil
 | .nilp=>some .nilp
 |_=>none
def vo (ρ:Nat→Nat):List SV→Option (List AV)
 | []=>some []
 |v::vs=>match q9 ρ v,vo ρ vs with
  |some a,some r=>some (a::r)
  |_,_=>none
def Ug (E:Env) (ρ:Nat→Nat) (fs:List Pm) (own:Bool) (T:TypeId):SV→Option AV
 | .clo f caps=>(vo ρ caps).map fun cs=> .clo f cs
 |v=>bif qz own v then q9 ρ v else (oL (E.T T) (qZ fs v)).map .val
def Du (E:Env) (ρ:Nat→Nat) (fs:List Pm) (f:FuncId):Nat→List TypeId→List SV→Option (List AV)
 |_,_,[]=>some []
 |i,Ts,v::vs=>match Ug E ρ fs (E.own f i) (Ts.headD 0) v,Du E ρ fs f (i+1) Ts.tail vs with
  |some a,some r=>some (a::r)
  |_,_=>none
def uh (E:Env) (f:FuncId):Nat→List SV→List Nat
 |_,[]=> []
 |i,.clo _ caps::r=>caps.flatMap SV.sites++uh E f (i+1) r
 |i,v::r=>bif qz (E.own f i) v then v.sites++uh E f (i+1) r else uh E f (i+1) r
def Bj (E:Env) (f:FuncId):Nat→List SV→List SV
 |_,[]=> []
 |i,.clo _ _::r=>Bj E f (i+1) r
 |i,v::r=>bif qz (E.own f i) v then Bj E f (i+1) r else v::Bj E f (i+1) r
abbrev aH:=FuncId→List AV→List DV→Option (Brn Res)
def M6 (σ:Nat→Nat):RV→SV
 | .val d=> .p d
 | .sd d=> .sd (d.ren σ)
 | .va s t=> .va (σ s) t
 | .vs s t pa lo n=> .vs (σ s) t pa lo n
 | .pb s t pa=> .pb (σ s) t pa
 | .mp s k v=> .mp (σ s) k v
 | .nil=> .nil
 | .nilp=> .nilp
def JX (σ:Nat→Nat):List RV→SV
 | [r]=>M6 σ r
 |rs=> .tup (rs.map (M6 σ))
def iD:List Nat→List (Option DV)→List Pm
 |s::ss,none::ds=> .kill s:: .del s::iD ss ds
 |_::ss,some _::ds=>iD ss ds
 |_,_=> []
def lH (σ:Nat→Nat):List Nat→List (Option DV)→List Pm
 |s::ss,some d::ds=> .ins s (d.ren σ)::lH σ ss ds
 |_::ss,none::ds=>lH σ ss ds
 |_,_=> []
def kN (σ:Nat→Nat):Nat→List DV→List Pm
 |_,[]=> []
 |j,d::r=> .ins (σ (site j)) (d.ren σ)::kN σ (j+1) r
def gI (σ:Nat→Nat):Nat→List DV→List Pm
 |_,[]=> []
 |j,_::r=> .kill (σ (site j))::gI σ (j+1) r
def JW:RV→List Nat
 | .sd d=>mentions d.1
 | .va s _=> [s]
 | .vs s _ _ _ _=> [s]
 | .pb s _ _=> [s]
 | .mp s _ _=> [s]
 |_=> []
def inR (r:Res) (p:Nat):Bool:=Nat.ble 1000000 p&&match r.bs[p - 1000000]? with
 |some (some _)=>true
 |some none=>false
 |none=>Nat.blt p (site (r.bs.length+r.fs.length))
def Ag:Option DV→List Nat
 |some d=>mentions d.1
 |none=> []
def mY (r:Res):Bool:=(r.rs.flatMap JW).all (inR r)&&(r.bs.flatMap Ag).all (inR r)&&(r.fs.flatMap fun d=>mentions d.1).all (inR r)
def pJ:List Nat→List (Option DV)→List Nat
 |s::ss,some _::ds=>s::pJ ss ds
 |_::ss,none::ds=>pJ ss ds
 |_,_=> []
def zw (sites:List Nat) (σ:Nat→Nat) (r:Res):Bool:=(List.range r.fs.length).all fun i=>Nat.blt (σ (site (sites.length+i))) 1000000&& !(pJ sites r.bs).any (Nat.beq (σ (site (sites.length+i))))
def Rs (sites:List Nat) (σ:Nat→Nat) (hasDst:Bool) (fs:List Pm) (r:Res):Option Ef:=
 bif Nat.beq r.bs.length sites.length&&(hasDst||r.fs.isEmpty)&&zw sites σ r&&mY r then
  some ⟨fs++iD sites r.bs++gI σ sites.length r.fs++lH σ sites r.bs++kN σ sites.length r.fs,some (JX σ r.rs)⟩ else none
def nodupB:List Nat→Bool
 | []=>true
 |s::r=> !r.any (Nat.beq s)&&nodupB r
def si:AV→List Nat
 | .va s _=> [s]
 | .vs s _ _ _ _=> [s]
 | .pb s _ _=> [s]
 | .mp s _ _=> [s]
 |_=> []
def xD:AV→List Nat
 | .clo _ caps=>caps.flatMap si
 |a=>si a
def zy (n:Nat) (as:List AV) (bs:List DV):Bool:=(as.flatMap xD).all (fun p=>Nat.blt p (site n))&&(bs.flatMap fun d=>mentions d.1).all fun p=>Nat.blt p (site n)
def OD (E:Env) (D:aH) (dst:Option Nat) (f:FuncId) (Ts:List TypeId) (vs:List SV) (st:St):Option (Brn Ef):=
 let sites:=mR st 1000 (uh E f 0 vs) []
 let ρ:=toC sites
 let σ:=ofC sites (dst.getD 0)
 match o9 st (Bj E f 0 vs) with
 |some fs=>bif pu (fs.flatMap Pm.fs) sites&&nodupB sites&&Nat.ble vs.length 1000 then
  match Du E ρ fs f 0 Ts vs,sites.mapM (aQ fs st).box with
  |some as,some bs=>bif zy sites.length as (bs.map (DV.ren ρ)) then (match D f as (bs.map (DV.ren ρ)) with
   |some b=>b.map (Rs sites σ dst.isSome (bif b.all Res.flat then [] else fs))
   |none=>none) else none
  |_,_=>none
  else none
 |none=>none
def G8 (st:St) (o:Oper):Option (FuncId×List TypeId×List SV):=
 match o.op with
 | .call c=>match c.callee with
  | .value (.func f)=>some (f,c.argTypes.toList,c.args.toList.map (ev st))
  | .value x=>match ev st x with
   | .clo f caps=>some (f,c.argTypes.toList,c.args.toList.map (ev st)++caps)
   |_=>none
  |_=>none
 |_=>none
def SV.Ue:SV→Bool
 | .pb .. =>true
 | .p _=>true
 |_=>false
def OC (st:St) (o:Oper):Bool:=
 match o.op with
 | .call c=>match c.callee with
  | .value x=>match ev st x with
   | .clo _ caps=>caps.all SV.Ue
   |_=>true
  |_=>true
 |_=>true
def F6 (E:Env) (D:aH) (o:Oper) (st:St):Option (Brn Ef):=
 match G8 st o with
 |some (f,Ts,vs)=>bif OC st o then OD E D o.dst f Ts vs st else none
 |none=>(opP E o st).map fun r=> .one r.1 r.2
end Go.Own
