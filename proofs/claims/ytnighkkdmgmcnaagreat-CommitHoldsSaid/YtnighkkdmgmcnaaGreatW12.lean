/- What is proved: the evaluator of the translated code, and that it is sound, part 12. Conditions: those that each theorem names. -/
import Derived.Test.YtnighkkdmgmcnaaGreatW11
import Derived.Orders
import Derived.LoopN
import Derived.Scope
set_option linter.unusedVariables false
set_option linter.unusedSimpArgs false
set_option linter.unusedVariables false
namespace Go.Own
variable {C:Cx} {P:Program} {E:Env} {w w' w2:World} {I I' I1 I2:Nat→Prop} {st sv st':St} {tm:Array Value} {tk tk':aU} {ds:List Deferred} {o:Oper} {e:Ef}
theorem Av {s:Nat} {v:SV} (h:s∉v.sites):v.eu s=v:=by
 have one:∀ {r:Nat},s∉ [r]→Nat.beq r s=false:=fun h=>eP.2 fun e=>h (by simp [e])
 cases v with
 |sd d=>simp only [SV.eu,DV.jZ]; rw [jW s h]
 |va r t=>simp only [SV.eu]; rw [one h]; rfl
 |vs r t pa lo n=>simp only [SV.eu]; rw [one h]; rfl
 |pb r t pa=>simp only [SV.eu]; rw [one h]; rfl
 |mp r k v=>simp only [SV.eu]; rw [one h]; rfl
 |ud r t=>simp only [SV.eu]; rw [one h]; rfl
 |_=>rfl
theorem map_none {f:SV→SV} {l:List SV} (h:∀ v∈l,f v=v):l.map f=l:=by
 have:l.map f=l.map id:=List.map_congr_left h
 rw [this,List.map_id]
theorem mq {s:Nat} {v:SV} (h:s∉v.dO):v.kill s=v:=by
 have flat:∀ l:List SV,s∉l.flatMap SV.sites→l.map (SV.eu s)=l:=fun l h=>map_none fun v hv=>Av fun hm=>h (List.mem_flatMap.2 ⟨v,hv,hm⟩)
 cases hv:v.jL with
 |true=>rw [oz hv]; exact Av (by rw [← jk hv]; exact h)
 |false=>
  cases v with
  |clo f caps=>simp only [SV.kill]; rw [flat caps h]
  |tup l=>simp only [SV.kill]; rw [flat l h]
  |_=>cases hv
theorem LD (s:Nat) (c:DV):∀ {t:Ty} {x:t.den},s∉mentions t→fU s c t x=⟨t,x⟩:=by
 have one:∀ {r:Nat},s∉ [r]→Nat.beq r s=false:=fun h=>eP.2 fun e=>h (by simp [e])
 intro t
 induction t with
 |pair a b iha ihb=>
  intro x hs
  simp only [mentions,List.mem_append,not_or] at hs
  have h1:=iha (x:=x.1) hs.1
  have h2:=ihb (x:=x.2) hs.2
  simp only [fU]
  generalize fU s c a x.1=d1 at h1 ⊢
  generalize fU s c b x.2=d2 at h2 ⊢
  subst h1
  subst h2
  rfl
 |arr n t ih=>intro x hs; simp only [fU]; exact jW s hs
 |sf r t pa=>intro x hs; simp only [fU]; rw [one hs]; rfl
 |vw r t=>intro x hs; simp only [fU]; rw [one hs]; rfl
 |pt r t pa=>intro x hs; simp only [fU]; rw [one hs]; rfl
 |mp r k v=>intro x hs; simp only [fU]; rw [one hs]; rfl
 |rid r t=>intro x hs; simp only [fU]; rw [one hs]; rfl
 |dyn t ih=>intro x hs; simp only [fU,DV.jZ]; exact jW s hs
 |_=>intro x hs; rfl
theorem CX {s:Nat} {c:DV} {v:SV} (h:s∉v.sites):v.mP s c=v:=by
 have one:∀ {r:Nat},s∉ [r]→Nat.beq r s=false:=fun h=>eP.2 fun e=>h (by simp [e])
 cases v with
 |sd d=>
  simp only [SV.mP]
  have:(mentions d.1).any (Nat.beq s)=false:=by
   rw [List.any_eq_false]
   intro x hx e
   have:=beq_iff.1 e
   subst this
   exact h hx
  rw [this]; rfl
 |va r t=>simp only [SV.mP]; rw [one h]; rfl
 |vs r t pa lo n=>simp only [SV.mP]; rw [one h]; rfl
 |pb r t pa=>simp only [SV.mP]; rw [one h]; rfl
 |mp r k v=>simp only [SV.mP]; rw [one h]; rfl
 |ud r t=>simp only [SV.mP]; rw [one h]; rfl
 |_=>rfl
theorem any_none {s:Nat} {l:List Nat} (h:s∉l):l.any (Nat.beq s)=false:=by
 rw [List.any_eq_false]
 intro x hx e
 have:=beq_iff.1 e
 subst this
 exact h hx
theorem LF {s:Nat} {c:DV} {v:SV} (h:s∉v.dO):v.BQ s c=v:=by
 have flat:∀ l:List SV,s∉l.flatMap SV.sites→l.map (SV.mP s c)=l:=fun l h=>map_none fun v hv=>CX fun hm=>h (List.mem_flatMap.2 ⟨v,hv,hm⟩)
 cases hv:v.jL with
 |true=>rw [AX hv]; exact CX (by rw [← jk hv]; exact h)
 |false=>
  cases v with
  |clo f caps=>simp only [SV.BQ]; rw [flat caps h]
  |tup l=>simp only [SV.BQ]; rw [flat l h]
  |_=>cases hv
theorem zI {s:Nat} {u:Ty} {l:List (Nat×List u.den)} {v:SV} (h:s∉v.sites):SV.pQ s u l v=v:=by
 cases v<;>first|rfl|skip
 rename_i d
 simp only [SV.pQ]
 rw [any_none (l:=mentions d.1) h]; rfl
theorem pu {s:Nat} {u:Ty} {l:List (Nat×List u.den)} {v:SV} (h:s∉v.dO):SV.thaw s u l v=v:=by
 have flat:∀ r:List SV,s∉r.flatMap SV.sites→r.map (SV.pQ s u l)=r:=fun r h=>map_none fun v hv=>zI fun hm=>h (List.mem_flatMap.2 ⟨v,hv,hm⟩)
 cases hv:v.jL with
 |true=>rw [zG hv]; exact zI (by rw [← jk hv]; exact h)
 |false=>
  cases v with
  |clo f caps=>simp only [SV.thaw]; rw [flat caps h]
  |tup r=>simp only [SV.thaw]; rw [flat r h]
  |_=>cases hv
theorem Gw {s:Nat} {c:DV} {v:SV} (h:s∉v.dO):v.frz s c=v:=by
 cases hp:c.1.fD with
 |false=>rw [I9 hp]; exact LF h
 |true=>
  obtain ⟨t,x⟩:=c
  cases t<;>first|cases hp; done|skip
  simp only [SV.frz]
  rw [pu h,mq h]
theorem Kn {s:Nat} {c d:DV} (h:s∉mentions d.1):DV.fz s c d=d:=by
 cases hp:c.1.fD with
 |false=>rw [NW hp]; exact LD s c h
 |true=>
  obtain ⟨t,x⟩:=c
  cases t<;>first|cases hp; done|skip
  simp only [DV.fz,DV.jZ,DV.JO]
  rw [any_none h]
  exact jW s h
theorem Gy (s:Nat) (c:DV) (y:Nat):∀ {t:Ty} {x:t.den},y∈mentions (fU s c t x).1→y∈mentions t:=by
 intro t
 induction t with
 |pair a b iha ihb=>
  intro x h
  simp only [fU,mentions,List.mem_append] at h ⊢
  exact h.imp iha ihb
 |arr n t ih=>intro x h; exact fw s y (.arr n t) h
 |sf r t pa=>
  intro x h
  simp only [fU] at h
  cases hb:Nat.beq r s<;>rw [hb] at h
  ·exact h
  ·simp [mentions] at h
 |vw r t=>
  intro x h
  simp only [fU] at h
  cases hb:Nat.beq r s<;>rw [hb] at h
  ·exact h
  ·simp only [cond_true] at h
   split at h<;>simp [mentions] at h
 |pt r t pa=>
  intro x h
  simp only [fU] at h
  cases hb:Nat.beq r s<;>rw [hb] at h
  ·exact h
  ·simp only [cond_true] at h
   split at h
   ·rename_i z hz
    cases hp:z.1.plain<;>rw [hp] at h<;>simp [mentions] at h
   ·simp [mentions] at h
 |mp r k v=>
  intro x h
  simp only [fU] at h
  cases hb:Nat.beq r s<;>rw [hb] at h
  ·exact h
  ·simp [mentions] at h
 |rid r t=>
  intro x h
  simp only [fU] at h
  cases hb:Nat.beq r s<;>rw [hb] at h
  ·exact h
  ·simp [mentions] at h
 |dyn t ih=>intro x h; simp only [fU,DV.jZ] at h; exact fw s y (.dyn t) h
 |_=>intro x h; exact h
theorem Ca (s:Nat) (u:Ty) (y:Nat):∀ {t:Ty},y∈mentions (Ty.thaw s u t)→y∈mentions t:=by
 intro t
 induction t with
 |pair a b iha ihb=>
  intro h
  simp only [Ty.thaw,mentions,List.mem_append] at h ⊢
  exact h.imp iha ihb
 |arr n t ih=>intro h; exact ih h
 |dyn t ih=>intro h; exact ih h
 |rid r t=>
  intro h
  simp only [Ty.thaw,thT] at h
  cases hb:Nat.beq r s<;>rw [hb] at h
  ·exact h
  ·cases hd:decide (u=t)<;>rw [hd] at h<;>simp [mentions] at h
 |_=>intro h; exact h
theorem Ka {d:DV} {y:Nat} (h:y∈(mkS d).sites):y∈mentions d.1:=by
 unfold mkS at h
 cases hp:d.1.plain<;>rw [hp] at h
 ·exact h
 ·simp [SV.sites] at h
theorem Gz (s:Nat) (c:DV) (y:Nat) (v:SV) (h:y∈(v.mP s c).sites):y∈v.sites:=by
 cases v with
 |sd d=>
  simp only [SV.mP] at h
  cases hm:(mentions d.1).any (Nat.beq s)<;>rw [hm] at h
  ·exact h
  ·exact Gy s c y (Ka h)
 |va r t=>
  simp only [SV.mP] at h
  cases hb:Nat.beq r s<;>rw [hb] at h
  ·exact h
  ·simp only [cond_true] at h; split at h<;>simp [SV.sites] at h
 |vs r t pa lo n=>
  simp only [SV.mP] at h
  cases hb:Nat.beq r s<;>rw [hb] at h
  ·exact h
  ·simp only [cond_true] at h; split at h<;>simp [SV.sites] at h
 |pb r t pa=>
  simp only [SV.mP] at h
  cases hb:Nat.beq r s<;>rw [hb] at h
  ·exact h
  ·simp only [cond_true] at h
   split at h
   ·rename_i z hz
    cases hp:z.1.plain<;>rw [hp] at h<;>simp [SV.sites] at h
   ·simp [SV.sites] at h
 |mp r k v=>
  simp only [SV.mP] at h
  cases hb:Nat.beq r s<;>rw [hb] at h
  ·exact h
  ·simp [SV.sites] at h
 |ud r t=>
  simp only [SV.mP] at h
  cases hb:Nat.beq r s<;>rw [hb] at h
  ·exact h
  ·simp [SV.sites] at h
 |_=>exact h
theorem Ja {v:SV} (hv:v.jL=true) (s:Nat) (c:DV):(v.mP s c).jL=true:=by
 cases v<;>first|(cases hv; done)|rfl|skip
 all_goals simp only [SV.mP]
 ·cases (mentions _).any (Nat.beq s)
  ·rfl
  ·exact Kb _
 ·cases Nat.beq _ s
  ·rfl
  ·simp only [cond_true]; split<;>rfl
 ·cases Nat.beq _ s
  ·rfl
  ·simp only [cond_true]; split<;>rfl
 ·cases Nat.beq _ s
  ·rfl
  ·simp only [cond_true]
   split
   ·rename_i z hz; cases z.1.plain<;>rfl
   ·rfl
 ·cases Nat.beq _ s<;>rfl
 ·cases Nat.beq _ s<;>rfl
theorem N9 (s:Nat) (c:DV) (y:Nat) (v:SV) (h:y∈(v.BQ s c).dO):y∈v.dO:=by
 have flat:∀ l:List SV,y∈(l.map (SV.mP s c)).flatMap SV.sites→y∈l.flatMap SV.sites:=by
  intro l h
  rw [List.mem_flatMap] at h ⊢
  obtain ⟨a,ha,hs⟩:=h
  rw [List.mem_map] at ha
  obtain ⟨b,hb,rfl⟩:=ha
  exact ⟨b,hb,Gz s c y b hs⟩
 cases hv:v.jL with
 |true=>rw [AX hv,jk (Ja hv s c)] at h; rw [jk hv]; exact Gz s c y v h
 |false=>
  cases v with
  |clo f caps=>exact flat caps h
  |tup l=>exact flat l h
  |_=>cases hv
theorem Cb (s:Nat) (u:Ty) (l:List (Nat×List u.den)) (y:Nat) (v:SV) (h:y∈(SV.pQ s u l v).sites):y∈v.sites:=by
 cases v<;>first|exact h|skip
 rename_i d
 simp only [SV.pQ] at h
 cases hm:(mentions d.1).any (Nat.beq s)<;>rw [hm] at h
 ·exact h
 ·exact Ca s u y (Ka h)
theorem ME (s:Nat) (u:Ty) (l:List (Nat×List u.den)) (y:Nat) (v:SV) (h:y∈(SV.thaw s u l v).dO):y∈v.dO:=by
 have flat:∀ r:List SV,y∈(r.map (SV.pQ s u l)).flatMap SV.sites→y∈r.flatMap SV.sites:=by
  intro r h
  rw [List.mem_flatMap] at h ⊢
  obtain ⟨a,ha,hs⟩:=h
  rw [List.mem_map] at ha
  obtain ⟨b,hb,rfl⟩:=ha
  exact ⟨b,hb,Cb s u l y b hs⟩
 cases hv:v.jL with
 |true=>rw [zG hv,jk (Fb hv)] at h; rw [jk hv]; exact Cb s u l y v h
 |false=>
  cases v with
  |clo f caps=>exact flat caps h
  |tup r=>exact flat r h
  |_=>cases hv
theorem QD (s:Nat) (c:DV) (y:Nat) (v:SV) (h:y∈(v.frz s c).dO):y∈v.dO:=by
 cases hp:c.1.fD with
 |false=>rw [I9 hp] at h; exact N9 s c y v h
 |true=>
  obtain ⟨t,x⟩:=c
  cases t<;>first|cases hp; done|skip
  exact ME s _ x y v (Au s y _ h)
theorem SG (s:Nat) (c:DV) (y:Nat) {d:DV} (h:y∈mentions (DV.fz s c d).1):y∈mentions d.1:=by
 cases hp:c.1.fD with
 |false=>rw [NW hp] at h; exact Gy s c y h
 |true=>
  obtain ⟨t,x⟩:=c
  cases t<;>first|cases hp; done|skip
  simp only [DV.fz,DV.jZ,DV.Fa] at h
  exact Ca s _ y (fw s y _ h)
end Go.Own
set_option linter.unusedVariables false
namespace Go.Own
variable {C:Cx} {P:Program} {E:Env} {w w' w2:World} {I I' I1 I2:Nat→Prop} {st sv st':St} {tm:Array Value} {tk tk':aU} {ds:List Deferred} {o:Oper} {e:Ef}
theorem rW:∀ {l:List (Nat×DV)} {s:Nat},(∀ x∈l.map (·.1),s<x)→eB l s=none
 | [],_,_=>rfl
 |x::l,s,h=>by
  simp only [eB]
  have:s<x.1:=h x.1 (by simp)
  rw [eP.2 (by omega)]
  exact rW fun y hy=>h y (by simp at hy ⊢; exact .inr hy)
theorem JQ:∀ {l l':List (Nat×DV)},(l.map (·.1)).Pairwise (· < ·)→(l'.map (·.1)).Pairwise (· < ·)→(∀ s,eB l s=eB l' s)→l=l'
 | [],[],_,_,_=>rfl
 | [],y::l',_,_,h=>by have:=h y.1; simp [eB] at this
 |x::l,[],_,_,h=>by have:=h x.1; simp [eB] at this
 |x::l,y::l',h1,h2,h=>by
  simp only [List.map_cons,List.pairwise_cons] at h1 h2
  have hxy:x.1=y.1:=by
   rcases Nat.lt_trichotomy x.1 y.1 with hlt|heq|hgt
   ·have e1:=h x.1
    have:eB (y::l') x.1=none:=rW (by
     intro z hz
     rcases List.mem_cons.1 hz with rfl|hz
     ·exact hlt
     ·exact Nat.lt_trans hlt (h2.1 z hz))
    rw [this] at e1
    simp [eB] at e1
   ·exact heq
   ·have e1:=h y.1
    have:eB (x::l) y.1=none:=rW (by
     intro z hz
     rcases List.mem_cons.1 hz with rfl|hz
     ·exact hgt
     ·exact Nat.lt_trans hgt (h1.1 z hz))
    rw [this] at e1
    simp [eB] at e1
  have e2:=h x.1
  simp only [eB,hxy,Nat.beq_refl,cond_true,Option.some.injEq] at e2
  have hx:x=y:=Prod.ext hxy e2
  subst hx
  congr 1
  refine JQ h1.2 h2.2 fun s=> ?_
  have e3:=h s
  simp only [eB] at e3
  by_cases hs:x.1=s
  ·subst hs
   rw [rW h1.1,rW h2.1]
  ·rw [eP.2 hs] at e3
   exact e3
theorem MH (h1:st.sl.length=st'.sl.length) (h2:∀ i,st.slot i=st'.slot i) (h3:st.srt) (h4:st'.srt) (h5:∀ s,st.box s=st'.box s):st=st':=by
 obtain ⟨sl,bx⟩:=st
 obtain ⟨sl',bx'⟩:=st'
 have e2:bx=bx':=JQ h3 h4 h5
 have e1:sl=sl':=by
  apply List.ext_getElem h1
  intro i hi hi'
  have:=h2 i
  unfold St.slot at this
  simpa [List.getD_eq_getElem?_getD,List.getElem?_eq_getElem hi,List.getElem?_eq_getElem hi'] using this
 rw [e1,e2]
theorem sw (p:Pm) (h:st.srt):(p.run st).srt:=by
 cases p with
 |set i v=>exact h
 |ins s d=>exact nD h s d
 |kill s=>
  unfold St.srt at*
  simp only [Pm.run,St.kill,List.map_map]
  exact h
 |frz s c=>
  have h1:St.srt ⟨st.sl.map (SV.frz s c),st.bx.map fun x=>(x.1,DV.fz s c x.2)⟩:=by
   unfold St.srt at*
   simp only [List.map_map]
   exact h
  exact Dy h1 s
 |del s=>exact Dy h s
theorem tO:∀ (ps:List Pm) {st:St},st.srt→(aN ps st).srt
 | [],_,h=>h
 |p::ps,_,h=>tO ps (sw p h)
def oQ (p:Pm) (n i:Nat) (v:SV):SV:=match p with
 | .set j u=>if j=i∧i<n then u else v
 | .kill s=>v.kill s
 | .frz s c=>v.frz s c
 |_=>v
theorem rA (p:Pm) (st:St) (i:Nat):(p.run st).slot i=oQ p st.sl.length i (st.slot i):=by
 cases p with
 |set j u=>
  simp only [Pm.run,oQ]
  by_cases hj:j<st.sl.length
  ·rw [Fj st j i u hj]
   by_cases hi:i=j
   ·subst hi; simp [hj]
   ·rw [if_neg hi,if_neg (fun h=>hi h.1.symm)]
  ·have:({st with sl:=st.sl.set j u}:St)=st:=by rw [List.set_eq_of_length_le (by omega)]
   rw [this,if_neg (fun h:j=i∧i<st.sl.length=>hj (by rw [h.1]; exact h.2))]
 |kill s=>exact nE s i st
 |frz s c=>exact qG s i c st
 |ins s d=>rfl
 |del s=>rfl
def jG (p:Pm) (r:Nat) (b:Option DV):Option DV:=match p with
 | .set _ _=>b
 | .ins s d=>if r=s then some d else b
 | .kill s=>b.map (DV.kill s)
 | .frz s c=>if r=s then none else b.map (DV.fz s c)
 | .del s=>if r=s then none else b
theorem sV (p:Pm) (st:St) (r:Nat):(p.run st).box r=jG p r (st.box r):=by
 cases p with
 |set j u=>rfl
 |ins s d=>exact iE st s r d
 |kill s=>exact ng s r st
 |frz s c=>exact sW s r c st
 |del s=>exact og st s r
theorem Ik {p:Pm} {n i:Nat} {v:SV} (h1:i∉p.ws) (h2:∀ x∈v.dO,x∉p.tc):oQ p n i v=v:=by
 cases p with
 |set j u=>simp only [oQ]; rw [if_neg (fun h=>h1 (by simp [Pm.ws,h.1]))]
 |kill s=>exact mq fun hm=>h2 s hm (by simp [Pm.tc])
 |frz s c=>exact Gw fun hm=>h2 s hm (by simp [Pm.tc])
 |ins s d=>rfl
 |del s=>rfl
theorem sG:∀ {ps:List Pm} {st:St} {i:Nat},i∉ps.flatMap Pm.ws→(∀ x∈(st.slot i).dO,x∉ps.flatMap Pm.tc)→(aN ps st).slot i=st.slot i
 | [],_,_,_,_=>rfl
 |p::ps,st,i,h1,h2=>by
  simp only [List.flatMap_cons,List.mem_append,not_or] at h1 h2
  have e:(p.run st).slot i=st.slot i:=by rw [rA]; exact Ik h1.1 fun x hx=>(h2 x hx).1
  have:=sG (ps:=ps) (st:=p.run st) (i:=i) h1.2 (by rw [e]; exact fun x hx=>(h2 x hx).2)
  exact this.trans e
theorem LZ {p:Pm} {r:Nat} {b:Option DV} (h1:r∉p.wb) (h2:∀ x∈Ad b,x∉p.tc):jG p r b=b:=by
 cases p with
 |set j u=>rfl
 |ins s d=>simp only [jG]; rw [if_neg (fun h=>h1 (by simp [Pm.wb,h]))]
 |kill s=>
  cases b with
  |none=>rfl
  |some d=>simp only [jG,Option.map_some]; rw [jW s (t:=d.1) (x:=d.2) fun hm=>h2 s hm (by simp [Pm.tc])]
 |frz s c=>
  simp only [jG]
  rw [if_neg (fun h=>h1 (by simp [Pm.wb,h]))]
  cases b with
  |none=>rfl
  |some d=>simp only [Option.map_some]; rw [Kn (d:=d) fun hm=>h2 s hm (by simp [Pm.tc])]
 |del s=>simp only [jG]; rw [if_neg (fun h=>h1 (by simp [Pm.wb,h]))]
theorem uQ:∀ {ps:List Pm} {st:St} {r:Nat},r∉ps.flatMap Pm.wb→(∀ x∈Ad (st.box r),x∉ps.flatMap Pm.tc)→(aN ps st).box r=st.box r
 | [],_,_,_,_=>rfl
 |p::ps,st,i,h1,h2=>by
  simp only [List.flatMap_cons,List.mem_append,not_or] at h1 h2
  have e:(p.run st).box i=st.box i:=by rw [sV]; exact LZ h1.1 fun x hx=>(h2 x hx).1
  have:=uQ (ps:=ps) (st:=p.run st) (r:=i) h1.2 (by rw [e]; exact fun x hx=>(h2 x hx).2)
  exact this.trans e
theorem yN:∀ {ps:List Pm} {st:St} {i x:Nat},x∈((aN ps st).slot i).dO→x∈(st.slot i).dO∨x∈ps.flatMap Pm.wr
 | [],_,_,_,h=> .inl h
 |p::ps,st,i,x,h=>by
  simp only [List.flatMap_cons,List.mem_append]
  rcases yN (ps:=ps) (st:=p.run st) h with h|h
  ·rw [rA] at h
   cases p with
   |set j u=>
    simp only [oQ] at h
    split at h
    ·exact .inr (.inl h)
    ·exact .inl h
   |kill s=>exact .inl (Au s x _ h)
   |frz s c=>exact .inl (QD s c x _ h)
   |ins s d=>exact .inl h
   |del s=>exact .inl h
  ·exact .inr (.inr h)
theorem tT:∀ {ps:List Pm} {st:St} {r x:Nat},x∈Ad ((aN ps st).box r)→x∈Ad (st.box r)∨x∈ps.flatMap Pm.wr
 | [],_,_,_,h=> .inl h
 |p::ps,st,r,x,h=>by
  simp only [List.flatMap_cons,List.mem_append]
  rcases tT (ps:=ps) (st:=p.run st) h with h|h
  ·rw [sV] at h
   cases p with
   |set j u=>exact .inl h
   |ins s d=>
    simp only [jG] at h
    split at h
    ·exact .inr (.inl h)
    ·exact .inl h
   |kill s=>
    simp only [jG] at h
    cases hb:st.box r with
    |none=>rw [hb] at h; exact .inl h
    |some d=>rw [hb] at h; exact .inl (fw s x d.1 h)
   |frz s c=>
    simp only [jG] at h
    split at h
    ·cases h
    ·cases hb:st.box r with
     |none=>rw [hb] at h; exact .inl h
     |some d=>rw [hb] at h; exact .inl (SG s c x (d:=d) h)
   |del s=>
    simp only [jG] at h
    split at h
    ·cases h
    ·exact .inl h
  ·exact .inr (.inr h)
theorem rU {u v:Ty} {x:v.den} {a s r:Nat} (e1:∀ q,DV.kill q ⟨v,x⟩=⟨kv (Nat.beq a q) u v,kvX (Nat.beq a q) u v x⟩):DV.kill s (DV.kill r ⟨v,x⟩)=DV.kill r (DV.kill s ⟨v,x⟩):=by
 have t:∀ q,Nat.beq a q=true→DV.kill q ⟨v,x⟩=⟨.junk u,()⟩:=fun q h=>by rw [e1,h]; rfl
 have f:∀ q,Nat.beq a q=false→DV.kill q ⟨v,x⟩=⟨v,x⟩:=fun q h=>by rw [e1,h]; rfl
 have j:∀ q,DV.kill q (⟨.junk u,()⟩:DV)=⟨.junk u,()⟩:=fun _=>rfl
 cases hr:Nat.beq a r<;>cases hs:Nat.beq a s
 ·rw [f r hr,f s hs,f r hr]
 ·rw [f r hr,t s hs,j]
 ·rw [t r hr,f s hs,t r hr,j]
 ·rw [t r hr,t s hs,j,j]
theorem Bd (s r:Nat):∀ {t:Ty} {x:t.den},DV.kill s (DV.kill r ⟨t,x⟩)=DV.kill r (DV.kill s ⟨t,x⟩):=by
 intro t
 induction t with
 |pair a b iha ihb=>
  intro x
  have pk:∀ (q:Nat) (d1 d2:DV),DV.kill q ⟨.pair d1.1 d2.1,(d1.2,d2.2)⟩=⟨.pair (DV.kill q d1).1 (DV.kill q d2).1,((DV.kill q d1).2,(DV.kill q d2).2)⟩:=fun _ _ _=>rfl
  have h1:=iha (x:=x.1)
  have h2:=ihb (x:=x.2)
  have e:(⟨.pair a b,x⟩:DV)=⟨.pair (⟨a,x.1⟩:DV).1 (⟨b,x.2⟩:DV).1,((⟨a,x.1⟩:DV).2,(⟨b,x.2⟩:DV).2)⟩:=rfl
  rw [e,pk,pk,pk,pk,h1,h2]
 |arr n t ih=>
  intro l
  have e:∀ (q1 q2:Nat),DV.kill q1 (DV.kill q2 ⟨.arr n t,l⟩)=⟨.arr n ((t.kill q2).kill q1),l.map fun x=>jl q1 (t.kill q2) (jl q2 t x)⟩:=by
   intro q1 q2
   show (⟨.arr n ((t.kill q2).kill q1),jl q1 (.arr n (t.kill q2)) (jl q2 (.arr n t) l)⟩:DV)=_
   rw [uW,uW,List.map_map]
   rfl
  have aux:∀ (T1 T2:Ty) (f:t.den→T1.den) (g:t.den→T2.den),T1=T2→(∀ x,HEq (f x) (g x))→(⟨.arr n T1,l.map f⟩:DV)=⟨.arr n T2,l.map g⟩:=by
   rintro T1 _ f g rfl h
   have:f=g:=funext fun x=>eq_of_heq (h x)
   rw [this]
  have key:∀ x:t.den,(⟨(t.kill r).kill s,jl s (t.kill r) (jl r t x)⟩:DV)=⟨(t.kill s).kill r,jl r (t.kill s) (jl s t x)⟩:=fun x=>ih (x:=x)
  rw [e,e]
  exact aux _ _ _ _ (congrArg Sigma.fst (key t.dflt)) fun x=>(Sigma.mk.inj (key x)).2
 |sf a t pa=>intro x; exact rU (u:= .slf) (a:=a) fun _=>rfl
 |vw a t=>intro x; exact rU (u:= .sl t) (a:=a) fun _=>rfl
 |pt a t pa=>intro x; exact rU (u:= .ref t) (a:=a) fun _=>rfl
 |mp a k v=>intro x; exact rU (u:= .mp 0 k v) (a:=a) fun _=>rfl
 |rid a t=>intro x; exact rU (u:= .sl t) (a:=a) fun _=>rfl
 |dyn t ih=>
  intro l
  have e:∀ (q1 q2:Nat),DV.kill q1 (DV.kill q2 ⟨.dyn t,l⟩)=⟨.dyn ((t.kill q2).kill q1),(l.1,l.2.map fun x=>jl q1 (t.kill q2) (jl q2 t x))⟩:=by
   intro q1 q2
   show (⟨.dyn ((t.kill q2).kill q1),jl q1 (.dyn (t.kill q2)) (jl q2 (.dyn t) l)⟩:DV)=_
   rw [xZ,xZ,List.map_map]
   rfl
  have aux:∀ (T1 T2:Ty) (f:t.den→T1.den) (g:t.den→T2.den),T1=T2→(∀ x,HEq (f x) (g x))→(⟨.dyn T1,(l.1,l.2.map f)⟩:DV)=⟨.dyn T2,(l.1,l.2.map g)⟩:=by
   rintro T1 _ f g rfl h
   have:f=g:=funext fun x=>eq_of_heq (h x)
   rw [this]
  have key:∀ x:t.den,(⟨(t.kill r).kill s,jl s (t.kill r) (jl r t x)⟩:DV)=⟨(t.kill s).kill r,jl r (t.kill s) (jl s t x)⟩:=fun x=>ih (x:=x)
  rw [e,e]
  exact aux _ _ _ _ (congrArg Sigma.fst (key t.dflt)) fun x=>(Sigma.mk.inj (key x)).2
 |_=>intro x; rfl
theorem Aw (s r:Nat) (v:SV):(v.eu s).eu r=(v.eu r).eu s:=by
 cases v with
 |sd d=>simp only [SV.eu,DV.jZ]; rw [Bd r s]
 |va a t=>simp only [SV.eu]; cases h1:Nat.beq a s<;>cases h2:Nat.beq a r<;>simp only [cond_true,cond_false,SV.eu,h1,h2]
 |vs a t pa lo n=>simp only [SV.eu]; cases h1:Nat.beq a s<;>cases h2:Nat.beq a r<;>simp only [cond_true,cond_false,SV.eu,h1,h2]
 |pb a t pa=>simp only [SV.eu]; cases h1:Nat.beq a s<;>cases h2:Nat.beq a r<;>simp only [cond_true,cond_false,SV.eu,h1,h2]
 |mp a k x=>simp only [SV.eu]; cases h1:Nat.beq a s<;>cases h2:Nat.beq a r<;>simp only [cond_true,cond_false,SV.eu,h1,h2]
 |ud a t=>simp only [SV.eu]; cases h1:Nat.beq a s<;>cases h2:Nat.beq a r<;>simp only [cond_true,cond_false,SV.eu,h1,h2]
 |_=>rfl
theorem LA (s r:Nat) (v:SV):(v.kill s).kill r=(v.kill r).kill s:=by
 have flat:∀ l:List SV,(l.map (SV.eu s)).map (SV.eu r)=(l.map (SV.eu r)).map (SV.eu s):=by
  intro l
  simp only [List.map_map]
  exact List.map_congr_left fun v _=>Aw s r v
 cases hv:v.jL with
 |true=>rw [oz hv,oz hv,oz (uX hv s),oz (uX hv r)]; exact Aw s r v
 |false=>
  cases v with
  |clo f caps=>simp only [SV.kill,flat]
  |tup l=>simp only [SV.kill,flat]
  |_=>cases hv
structure Hz (p q:Pm):Prop where
 ws:∀ x∈p.ws,x∉q.ws
 wb:∀ x∈p.wb,x∉q.wb
 a:∀ x∈p.tc,x∉q.wr
 b:∀ x∈q.tc,x∉p.wr
 c:∀ x∈p.tc,x∉q.wb
 d:∀ x∈q.tc,x∉p.wb
 f:p.fz=true→q.tc= []
 g:q.fz=true→p.tc= []
theorem Hz.symm {p q:Pm} (h:Hz p q):Hz q p:=⟨fun x hx hy=>h.ws x hy hx,fun x hx hy=>h.wb x hy hx,h.b,h.a,h.d,h.c,h.g,h.f⟩
theorem Il {p q:Pm} (h:Hz p q) (n i:Nat) (v:SV):oQ p n i (oQ q n i v)=oQ q n i (oQ p n i v):=by
 have setk:∀ {j:Nat} {u:SV} {s:Nat},s∉u.dO→oQ (.set j u) n i (v.kill s)=(oQ (.set j u) n i v).kill s:=by
  intro j u s hs
  simp only [oQ]
  split
  ·exact (mq hs).symm
  ·rfl
 have setf:∀ {j:Nat} {u:SV} {s:Nat} {c:DV},s∉u.dO→oQ (.set j u) n i (v.frz s c)=(oQ (.set j u) n i v).frz s c:=by
  intro j u s c hs
  simp only [oQ]
  split
  ·exact (Gw hs).symm
  ·rfl
 cases p with
 |set j u=>
  cases q with
  |set k x=>
   simp only [oQ]
   have hne:j≠k:=fun e=>h.ws j (by simp [Pm.ws]) (by simp [Pm.ws,e])
   split<;>split<;>first|rfl|(rename_i h1 h2; exact absurd (h1.1.trans h2.1.symm) hne)
  |kill s=>exact setk (h.b s (by simp [Pm.tc]))
  |frz s c=>exact setf (h.b s (by simp [Pm.tc]))
  |ins s d=>rfl
  |del s=>rfl
 |kill r=>
  cases q with
  |set k x=>exact (setk (h.a r (by simp [Pm.tc]))).symm
  |kill s=>exact LA s r v
  |frz s c=>have:=h.g rfl; cases this
  |ins s d=>rfl
  |del s=>rfl
 |frz r c=>
  cases q with
  |set k x=>exact (setf (h.a r (by simp [Pm.tc]))).symm
  |kill s=>have:=h.f rfl; cases this
  |frz s c=>have:=h.f rfl; cases this
  |ins s d=>rfl
  |del s=>rfl
 |ins r d=>cases q<;>rfl
 |del r=>cases q<;>rfl
theorem L6 {p q:Pm} (h:Hz p q) (r:Nat) (b:Option DV):jG p r (jG q r b)=jG q r (jG p r b):=by
 have insk:∀ {s:Nat} {d:DV} {t:Nat},t∉mentions d.1→jG (.ins s d) r (jG (.kill t) r b)=jG (.kill t) r (jG (.ins s d) r b):=by
  intro s d t ht
  simp only [jG]
  split
  ·simp only [Option.map_some]; rw [jW t (t:=d.1) (x:=d.2) ht]
  ·rfl
 have insf:∀ {s:Nat} {d:DV} {t:Nat} {c:DV},t≠s→t∉mentions d.1→jG (.ins s d) r (jG (.frz t c) r b)=jG (.frz t c) r (jG (.ins s d) r b):=by
  intro s d t c hts ht
  simp only [jG]
  split
  ·rename_i hr
   subst hr
   rw [if_neg (fun e=>hts e.symm)]
   simp only [Option.map_some]; rw [Kn (d:=d) ht]
  ·rfl
 have insd:∀ {s:Nat} {d:DV} {t:Nat},t≠s→jG (.ins s d) r (jG (.del t) r b)=jG (.del t) r (jG (.ins s d) r b):=by
  intro s d t hts
  simp only [jG]
  split
  ·rename_i hr; subst hr; rw [if_neg (fun e=>hts e.symm)]
  ·rfl
 have killd:∀ {s t:Nat},jG (.kill s) r (jG (.del t) r b)=jG (.del t) r (jG (.kill s) r b):=by
  intro s t
  simp only [jG]
  split<;>rfl
 have frzd:∀ {s t:Nat} {c:DV},jG (.frz s c) r (jG (.del t) r b)=jG (.del t) r (jG (.frz s c) r b):=by
  intro s t c
  simp only [jG]
  split<;>split<;>rfl
 have ne:∀ {x y:Nat},x∈p.wb→y∈q.wb→x≠y:=fun h1 h2 e=>h.wb _ h1 (e ▸ h2)
 cases p with
 |set j u=>rfl
 |ins s d=>
  cases q with
  |set k x=>rfl
  |ins t e=>
   have hne:s≠t:=ne (by simp [Pm.wb]) (by simp [Pm.wb])
   simp only [jG]
   split<;>split<;>first|rfl|(rename_i h1 h2; exact absurd (h1.symm.trans h2) hne)
  |kill t=>exact insk (h.b t (by simp [Pm.tc]))
  |frz t c=>exact insf (fun e=>h.d t (by simp [Pm.tc]) (by simp [Pm.wb,e])) (h.b t (by simp [Pm.tc]))
  |del t=>exact insd (fun e=>ne (x:=s) (y:=t) (by simp [Pm.wb]) (by simp [Pm.wb]) e.symm)
 |kill s=>
  cases q with
  |set k x=>rfl
  |ins t e=>exact (insk (h.a s (by simp [Pm.tc]))).symm
  |kill t=>
   cases b with
   |none=>rfl
   |some d=>simp only [jG,Option.map_some]; rw [Bd s t (t:=d.1) (x:=d.2)]
  |frz t c=>have:=h.g rfl; cases this
  |del t=>exact killd
 |frz s c=>
  cases q with
  |set k x=>rfl
  |ins t e=>exact (insf (fun e=>h.c s (by simp [Pm.tc]) (by simp [Pm.wb,e])) (h.a s (by simp [Pm.tc]))).symm
  |kill t=>have:=h.f rfl; cases this
  |frz t c=>have:=h.f rfl; cases this
  |del t=>exact frzd
 |del s=>
  cases q with
  |set k x=>rfl
  |ins t e=>exact (insd (fun e=>ne (x:=s) (y:=t) (by simp [Pm.wb]) (by simp [Pm.wb]) e)).symm
  |kill t=>exact killd.symm
  |frz t c=>exact frzd.symm
  |del t=>simp only [jG]; split<;>split<;>rfl
theorem LG {p q:Pm} (h:Hz p q) (hs:st.srt):p.run (q.run st)=q.run (p.run st):=by
 refine MH (by rw [Pm.sF,Pm.sF,Pm.sF,Pm.sF]) (fun i=> ?_) (sw p (sw q hs)) (sw q (sw p hs)) fun r=> ?_
 ·rw [rA,rA,rA,rA,Pm.sF,Pm.sF]; exact Il h _ i _
 ·rw [sV,sV,sV,sV]; exact L6 h r _
theorem C8 {p:Pm}:∀ {qs:List Pm} {st:St},(∀ q∈qs,Hz p q)→st.srt→aN qs (p.run st)=p.run (aN qs st)
 | [],_,_,_=>rfl
 |q::qs,st,h,hs=>by
  simp only [aN]
  rw [← LG (h q (by simp)) hs]
  exact C8 (fun q' hq'=>h q' (by simp [hq'])) (sw q hs)
theorem CZ:∀ {ps qs:List Pm} {st:St},(∀ p∈ps,∀ q∈qs,Hz p q)→st.srt→aN qs (aN ps st)=aN ps (aN qs st)
 | [],_,_,_,_=>rfl
 |p::ps,qs,st,h,hs=>by
  simp only [aN]
  rw [CZ (fun p' hp'=>h p' (by simp [hp'])) (sw p hs),C8 (h p (by simp)) hs]
end Go.Own
set_option linter.unusedVariables false
namespace Go.Own
variable {C:Cx} {P:Program} {E:Env} {w w' w2:World} {I I' I1 I2:Nat→Prop} {st sv st':St} {tm:Array Value} {tk tk':aU} {ds:List Deferred} {o:Oper} {e:Ef} {D:aH} {all:List Oper}
theorem any_beq {l:List Nat} {x:Nat}:l.any (Nat.beq x)=true↔x∈l:=by
 rw [List.any_eq_true]
 constructor
 ·rintro ⟨y,hy,e⟩; rw [beq_iff.1 e]; exact hy
 ·intro h; exact ⟨x,h,beq_iff.2 rfl⟩
theorem BV (ks:List Nat):∀ (l:List SV) (i:Nat),(yH ks i l).length=l.length
 | [],_=>rfl
 |v::r,i=>by simp [yH,BV ks r (i+1)]
theorem BX (ks:List Nat):∀ (l:List SV) (i j:Nat),(yH ks i l).getD j .dead=bif ks.any (Nat.beq (i+j)) then l.getD j .dead else .dead
 | [],i,j=>by simp [yH]
 |v::r,i,0=>by simp [yH]
 |v::r,i,j+1=>by
  simp only [yH,List.getD_cons_succ]
  rw [BX ks r (i+1) j,show i+1+j=i+(j+1) by omega]
theorem xM (ks kb:List Nat) (st:St) (i:Nat):(st.view ks kb).slot i=bif ks.any (Nat.beq i) then st.slot i else .dead:=by
 have:=BX ks st.sl 0 i
 rw [Nat.zero_add] at this
 exact this
theorem w9 (kb:List Nat) (s:Nat):∀ l:List (Nat×DV),eB (Mr kb l) s=bif kb.any (Nat.beq s) then eB l s else none
 | []=>by cases kb.any (Nat.beq s)<;>rfl
 |x::l=>by
  have ih:=w9 kb s l
  unfold Mr at ih ⊢
  simp only [List.filter_cons]
  by_cases hx:x.1=s
  ·subst hx
   cases h:kb.any (Nat.beq x.1) with
   |true=>simp [eB]
   |false=>rw [h] at ih; simpa using ih
  ·have hne:=eP.2 hx
   cases h:kb.any (Nat.beq x.1) with
   |true=>simp only [if_true,eB,hne,cond_false]; exact ih
   |false=>
    have:(if false=true then x::List.filter (fun x=>kb.any (Nat.beq x.1)) l else List.filter (fun x=>kb.any (Nat.beq x.1)) l)=List.filter (fun x=>kb.any (Nat.beq x.1)) l:=by simp
    rw [this,ih]
    simp only [eB,hne,cond_false]
theorem zB (ks kb:List Nat) (st:St) (s:Nat):(st.view ks kb).box s=bif kb.any (Nat.beq s) then st.box s else none:=w9 kb s st.bx
theorem ET (ks kb:List Nat) (h:st.srt):(st.view ks kb).srt:=Dx h List.filter_sublist
theorem KQ (ks kb:List Nat) (st:St):View (st.view ks kb) st where
 slot:=fun i=>by
  rw [xM]
  cases ks.any (Nat.beq i) with
  |true=>exact .inr rfl
  |false=>exact .inl rfl
 box:=fun s d h=>by
  rw [zB] at h
  cases hb:kb.any (Nat.beq s) with
  |true=>rw [hb] at h; exact h
  |false=>rw [hb] at h; cases h
theorem xS (st:St):∀ (n:Nat) (l acc:List Nat) (x:Nat),x∈acc→x∈mR st n l acc
 |0,l,acc,x,h=>by cases l<;>exact h
 |n+1,[],acc,x,h=>h
 |n+1,s::r,acc,x,h=>by
  simp only [mR]
  cases acc.any (Nat.beq s) with
  |true=>exact xS st n r acc x h
  |false=>exact xS st n _ _ x (List.mem_append_left _ h)
theorem tV {st st':St}:∀ (n:Nat) (l acc:List Nat),(∀ s∈mR st n l acc,st'.box s=st.box s)→mR st' n l acc=mR st n l acc
 |0,l,acc,h=>by cases l<;>rfl
 |n+1,[],acc,h=>rfl
 |n+1,s::r,acc,h=>by
  simp only [mR] at h ⊢
  cases ha:acc.any (Nat.beq s) with
  |true=>rw [ha] at h; exact tV n r acc h
  |false=>
   rw [ha] at h
   simp only [cond_false] at h ⊢
   have hs:st'.box s=st.box s:=h s (xS st n _ _ s (by simp))
   rw [hs]
   exact tV n _ _ h
theorem KY {g:List Nat} (hk:∀ k∈(sees o g st).1,st'.slot k=st.slot k) (hb:∀ s∈(sees o g st).2,st'.box s=st.box s):sees o g st'=sees o g st:=by
 unfold sees at hk hb ⊢
 simp only at hk hb ⊢
 have e:((g++tmpsIn (looks o)).flatMap fun i=>(st'.slot i).dO)=(g++tmpsIn (looks o)).flatMap fun i=>(st.slot i).dO:=by
  have:∀ l:List Nat,(∀ k∈l,st'.slot k=st.slot k)→(l.flatMap fun i=>(st'.slot i).dO)=l.flatMap fun i=>(st.slot i).dO:=by
   intro l
   induction l with
   |nil=>intro _; rfl
   |cons a l ih=>intro h; rw [List.flatMap_cons,List.flatMap_cons,h a (by simp),ih fun k hk=>h k (by simp [hk])]
  exact this _ hk
 rw [e]
 cases hn:Ru o with
 |true=>rfl
 |false=>
  rw [hn] at hb
  simp only [cond_false] at hb ⊢
  rw [tV 1000 _ _ hb]
theorem KP {ks kb:List Nat} (hl:st'.sl.length=st.sl.length) (hs:st.srt) (hs':st'.srt) (hk:∀ k∈ks,st'.slot k=st.slot k) (hb:∀ s∈kb,st'.box s=st.box s):st'.view ks kb=st.view ks kb:=by
 refine MH (by simp only [St.view,BV]; exact hl) (fun i=> ?_) (ET _ _ hs') (ET _ _ hs) fun s=> ?_
 ·rw [xM,xM]
  cases h:ks.any (Nat.beq i) with
  |true=>simp only [cond_true]; exact hk i (any_beq.1 h)
  |false=>rfl
 ·rw [zB,zB]
  cases h:kb.any (Nat.beq s) with
  |true=>simp only [cond_true]; exact hb s (any_beq.1 h)
  |false=>rfl
def goD (E:Env) (D:aH) (o:Oper) (g:List Nat) (st:St):Option (Rec×List Pm):=
 match FW E D o (st.view (sees o g st).1 (sees o g st).2) with
 |some b=>bif b.res.1 then some (nC (sees o g st) st (nN o.dst b.res.2),nN o.dst b.res.2) else none
 |none=>none
def Ch (o:Oper) (g:Nat) (st:St):Rec×List Pm:=(nC ([g],[]) st (nN o.dst ⟨[],some .und⟩),nN o.dst ⟨[],some .und⟩)
def pV (E:Env) (D:aH) (all:List Oper) (o:Oper) (st:St):Option (Rec×List Pm):=
 match guardOf all o with
 |some none=>goD E D o [] st
 |some (some (d,want))=>match st.slot d with
  | .p ⟨.bool,b⟩=>if b=want then goD E D o [d] st else some (Ch o d st)
  | .und=>some (Ch o d st)
  |_=>none
 |none=>none
theorem GJ {R:Type} {r:R} {k:Rec→List Pm→St→Option R} (h:Jk E D all o st k=some r):∃ rc ps,pV E D all o st=some (rc,ps)∧k rc ps st=some r:=by
 have go:∀ {g:List Nat},(match FW E D o (st.view (sees o g st).1 (sees o g st).2) with
   |some b=>b.k fun e=>k (nC (sees o g st) st (nN o.dst e)) (nN o.dst e) st
   |none=>none)=some r→∃ rc ps,goD E D o g st=some (rc,ps)∧k rc ps st=some r:=by
  intro g hh
  unfold goD
  split at hh
  ·rename_i b he
   obtain ⟨h1,h2⟩:=Brn.Ki hh
   exact ⟨_,_,by rw [h1]; rfl,h2⟩
  ·cases hh
 unfold Jk at h
 unfold pV
 dsimp only at h
 split at h
 ·rename_i hg; simp only [hg]; exact go h
 ·rename_i d want hg
  simp only [hg]
  split at h
  ·rename_i b hb
   simp only [hb]
   cases b<;>cases want<;>simp only [cond_true,cond_false] at h
   ·rw [mg hb rfl] at h; rw [if_pos rfl]; exact go h
   ·rw [mg hb rfl] at h; rw [if_neg (by decide)]; exact ⟨_,_,rfl,h⟩
   ·rw [mg hb rfl] at h; rw [if_neg (by decide)]; exact ⟨_,_,rfl,h⟩
   ·rw [mg hb rfl] at h; rw [if_pos rfl]; exact go h
  ·rename_i hb; simp only [hb]; exact ⟨_,_,rfl,h⟩
  ·cases h
 ·cases h
structure RecSim (a b:Rec):Prop where
 ks:a.ks=b.ks
 kb:a.kb=b.kb
 rv:a.rv=b.rv
 ws:a.ws=b.ws
 wb:a.wb=b.wb
 wr:a.wr=b.wr
 tc:a.tc=b.tc
 fz:a.fz=b.fz
theorem RecSim.refl (a:Rec):RecSim a a:=⟨rfl,rfl,rfl,rfl,rfl,rfl,rfl,rfl⟩
theorem RecSim.trans {a b c:Rec} (h:RecSim a b) (k:RecSim b c):RecSim a c:=⟨h.ks.trans k.ks,h.kb.trans k.kb,h.rv.trans k.rv,h.ws.trans k.ws,h.wb.trans k.wb,h.wr.trans k.wr,h.tc.trans k.tc,h.fz.trans k.fz⟩
structure vH (a b:Rec):Prop extends RecSim a b where
 ts:∀ x∈a.ts,x∈b.ts
 tb:∀ x∈a.tb,x∈b.tb
theorem vH.refl (a:Rec):vH a a:=⟨RecSim.refl a,fun _ h=>h,fun _ h=>h⟩
theorem vH.trans {a b c:Rec} (h:vH a b) (k:vH b c):vH a c:=⟨h.toRecSim.trans k.toRecSim,fun x hx=>k.ts x (h.ts x hx),fun x hx=>k.tb x (h.tb x hx)⟩
theorem Cc {rc:Rec} {ps:List Pm} (h:pV E D all o st=some (rc,ps)):rc=nC (rc.ks,rc.kb) st ps:=by
 have go:∀ {g},goD E D o g st=some (rc,ps)→rc=nC (rc.ks,rc.kb) st ps:=by
  intro g hg
  unfold goD at hg
  split at hg
  ·rename_i b hb
   cases hc:b.res.1 with
   |false=>rw [hc] at hg; cases hg
   |true=>rw [hc] at hg; cases hg; rfl
  ·cases hg
 unfold pV at h
 split at h
 ·exact go h
 ·split at h
  ·split at h
   ·exact go h
   ·cases h; rfl
  ·cases h; rfl
  ·cases h
 ·cases h
theorem Cm {v:List Nat×List Nat} {ps:List Pm} (hk:∀ k∈v.1,st'.slot k=st.slot k) (hb:∀ s∈v.2,st'.box s=st.box s):RecSim (nC v st' ps) (nC v st ps):=by
 refine ⟨rfl,rfl,?_,rfl,rfl,rfl,rfl,rfl⟩
 unfold nC
 simp only
 have h1:∀ l:List Nat,(∀ k∈l,st'.slot k=st.slot k)→(l.flatMap fun i=>(st'.slot i).dO)=l.flatMap fun i=>(st.slot i).dO:=by
  intro l
  induction l with
  |nil=>intro _; rfl
  |cons a l ih=>intro h; rw [List.flatMap_cons,List.flatMap_cons,h a (by simp),ih fun k hk=>h k (by simp [hk])]
 have h2:∀ l:List Nat,(∀ k∈l,st'.box k=st.box k)→(l.flatMap fun i=>Ad (st'.box i))=l.flatMap fun i=>Ad (st.box i):=by
  intro l
  induction l with
  |nil=>intro _; rfl
  |cons a l ih=>intro h; rw [List.flatMap_cons,List.flatMap_cons,h a (by simp),ih fun k hk=>h k (by simp [hk])]
 rw [h1 _ hk,h2 _ hb]
theorem zM {rc:Rec} {ps:List Pm} (h:pV E D all o st=some (rc,ps)) (hl:st'.sl.length=st.sl.length) (hs:st.srt) (hs':st'.srt) (hk:∀ k∈rc.ks,st'.slot k=st.slot k) (hb:∀ s∈rc.kb,st'.box s=st.box s):
  pV E D all o st'=some (nC (rc.ks,rc.kb) st' ps,ps):=by
 have go:∀ {g},goD E D o g st=some (rc,ps)→goD E D o g st'=some (nC (rc.ks,rc.kb) st' ps,ps)∧∀ k∈g,k∈rc.ks:=by
  intro g hg
  unfold goD at hg
  split at hg
  ·rename_i b hop
   cases hc:b.res.1 with
   |false=>rw [hc] at hg; cases hg
   |true=>
    rw [hc] at hg
    cases hg
    have e1:=KY (o:=o) (g:=g) hk hb
    have e2:=KP hl hs hs' hk hb
    refine ⟨?_,fun k hk=>List.mem_append_left _ hk⟩
    unfold goD
    rw [e1]
    have e3:FW E D o (st'.view (sees o g st).1 (sees o g st).2)=some b:=by
     rw [show st'.view (sees o g st).1 (sees o g st).2=st.view (sees o g st).1 (sees o g st).2 from e2]; exact hop
    rw [e3]
    simp only [hc,cond_true]
    rfl
  ·cases hg
 unfold pV at h ⊢
 split at h
 ·rename_i hg; exact (go h).1
 ·rename_i d want hg
  split at h
  ·rename_i b hb'
   split at h
   ·rename_i hbw
    obtain ⟨h1,h2⟩:=go h
    rw [hk d (h2 d (by simp)),hb']
    simp only [hbw,if_true]
    exact h1
   ·rename_i hbw
    cases h
    rw [hk d (by simp [Ch,nC]),hb']
    simp only [if_neg hbw]
    rfl
  ·rename_i hb'
   cases h
   rw [hk d (by simp [Ch,nC]),hb']
   rfl
  ·cases h
 ·cases h
theorem iD {a b:List Nat} (h:o9 a b=true):∀ x∈a,x∉b:=by
 intro x hx hb
 have:=List.all_eq_true.1 h x hx
 rw [any_beq.2 hb] at this
 cases this
structure Ind (j i:Rec):Prop where
 a:∀ x∈j.ws,x∉i.ks
 b:∀ x∈j.ws,x∉i.ws
 c:∀ x∈i.ws,x∉j.ks
 d:∀ x∈j.wb,x∉i.kb
 e:∀ x∈j.wb,x∉i.wb
 f:∀ x∈i.wb,x∉j.kb
 ts:∀ x∈j.ts,x∉i.ks
 tb:∀ x∈j.tb,x∉i.kb
 l:∀ x∈i.tc,x∉j.rv
 h:∀ x∈j.tc,x∉i.wr
 m:∀ x∈i.tc,x∉j.wr
 k:∀ x∈j.tc,x∉i.tc
 n:∀ x∈j.tc,x∉i.wb
 p:∀ x∈i.tc,x∉j.wb
 q:j.fz=true→i.tc= []
 r:i.fz=true→j.tc= []
theorem IZ {j i:Rec} (h:indep j i=true):Ind j i:=by
 unfold indep at h
 simp only [Bool.and_eq_true,Bool.or_eq_true,List.isEmpty_iff,Bool.not_eq_true'] at h
 obtain ⟨⟨⟨⟨⟨⟨⟨⟨⟨⟨⟨⟨⟨⟨⟨h1,h2⟩,h3⟩,h4⟩,h5⟩,h6⟩,h7⟩,h8⟩,h9⟩,h10⟩,h11⟩,h12⟩,h13⟩,h14⟩,h15⟩,h16⟩:=h
 exact ⟨iD h1,iD h2,iD h3,iD h4,iD h5,iD h6,iD h7,iD h8,iD h9,iD h10,iD h11,iD h12,iD h13,iD h14,
  fun e=>h15.elim (fun h=>by rw [e] at h; cases h) id,fun e=>h16.elim (fun h=>by rw [e] at h; cases h) id⟩
theorem Ind.of {j i j' i':Rec} (h:Ind j i) (hj:vH j' j) (hi:RecSim i' i):Ind j' i':=by
 obtain ⟨⟨a1,a2,a3,a4,a5,a6,a7,a8⟩,a9,a10⟩:=hj
 obtain ⟨b1,b2,b3,b4,b5,b6,b7,b8⟩:=hi
 constructor
 all_goals (try simp only [a1,a2,a3,a4,a5,a6,a7,a8,b1,b2,b3,b4,b5,b6,b7,b8])
 ·exact h.a
 ·exact h.b
 ·exact h.c
 ·exact h.d
 ·exact h.e
 ·exact h.f
 ·exact fun x hx=>h.ts x (a9 x hx)
 ·exact fun x hx=>h.tb x (a10 x hx)
 ·exact h.l
 ·exact h.h
 ·exact h.m
 ·exact h.k
 ·exact h.n
 ·exact h.p
 ·exact h.q
 ·exact h.r
theorem xY {a b:List Nat}:meets a b=true↔∃ x∈a,x∈b:=by
 unfold meets
 rw [List.any_eq_true]
 constructor
 ·rintro ⟨x,hx,h⟩; exact ⟨x,hx,any_beq.1 h⟩
 ·rintro ⟨x,hx,h⟩; exact ⟨x,hx,any_beq.2 h⟩
theorem yL (tc:List Nat):∀ (l:List SV) (i k:Nat),k∈mQ tc i l↔i≤k∧meets (l.getD (k - i) .dead).dO tc=true
 | [],i,k=>by simp [mQ,SV.dO,SV.sites,meets]
 |v::r,i,k=>by
  have ih:=yL tc r (i+1) k
  simp only [mQ]
  by_cases hk:k=i
  ·subst hk
   simp only [Nat.sub_self,List.getD_cons_zero,Nat.le_refl,true_and]
   cases hm:meets v.dO tc with
   |true=>simp
   |false=>
    simp only [cond_false,ih]
    constructor
    ·intro h; omega
    ·intro h; cases h
  ·have e:k∈(bif meets v.dO tc then i::mQ tc (i+1) r else mQ tc (i+1) r)↔k∈mQ tc (i+1) r:=by
    cases meets v.dO tc<;>simp [hk]
   rw [e,ih]
   constructor
   ·rintro ⟨h1,h2⟩
    refine ⟨by omega,?_⟩
    rw [show k - i=(k - (i+1))+1 by omega,List.getD_cons_succ]; exact h2
   ·rintro ⟨h1,h2⟩
    refine ⟨by omega,?_⟩
    rw [show k - i=(k - (i+1))+1 by omega,List.getD_cons_succ] at h2; exact h2
theorem wF {tc:List Nat} {k:Nat}:k∈mQ tc 0 st.sl↔∃ x∈(st.slot k).dO,x∈tc:=by
 rw [yL]
 simp only [Nat.zero_le,true_and,Nat.sub_zero]
 exact xY
theorem C9:∀ {l:List (Nat×DV)} {s:Nat} {d:DV},eB l s=some d→(s,d)∈l
 | [],_,_,h=>by cases h
 |x::l,s,d,h=>by
  simp only [eB] at h
  cases hb:Nat.beq x.1 s with
  |true=>
   rw [hb] at h
   have:=beq_iff.1 hb
   cases h
   subst this
   simp
  |false=>rw [hb] at h; exact List.mem_cons_of_mem _ (C9 h)
theorem Cz:∀ {l:List (Nat×DV)} {s:Nat} {d:DV},(l.map (·.1)).Pairwise (· < ·)→(s,d)∈l→eB l s=some d
 | [],_,_,_,h=>by cases h
 |x::l,s,d,hs,h=>by
  simp only [List.map_cons,List.pairwise_cons] at hs
  simp only [eB]
  rcases List.mem_cons.1 h with rfl|h
  ·simp
  ·have:x.1<s:=hs.1 s (List.mem_map.2 ⟨_,h,rfl⟩)
   rw [eP.2 (by omega)]
   exact Cz hs.2 h
theorem yZ {tc:List Nat} {s:Nat} (hs:st.srt):s∈zu tc st.bx↔∃ x∈Ad (st.box s),x∈tc:=by
 unfold zu
 simp only [List.mem_map,List.mem_filter]
 constructor
 ·rintro ⟨⟨s',d⟩,⟨h1,h2⟩,rfl⟩
  have:st.box s'=some d:=Cz hs h1
  rw [this]
  exact xY.1 h2
 ·rintro ⟨x,h1,h2⟩
  cases hb:st.box s with
  |none=>rw [hb] at h1; cases h1
  |some d=>
   rw [hb] at h1
   exact ⟨(s,d),⟨C9 hb,xY.2 ⟨x,h1,h2⟩⟩,rfl⟩
theorem Ib {oj oi:Oper} {rj ri:Rec} {pj pi:List Pm} (hs:st.srt) (h1:pV E D all oj st=some (rj,pj)) (h2:pV E D all oi (aN pj st)=some (ri,pi)) (hi:Ind rj ri):
  ∃ ri' rj',pV E D all oi st=some (ri',pi)∧RecSim ri' ri∧pV E D all oj (aN pi st)=some (rj',pj)∧vH rj' rj∧aN pi (aN pj st)=aN pj (aN pi st):=by
 have e1:=Cc h1
 have e2:=Cc h2
 have jws:rj.ws=pj.flatMap Pm.ws:=by rw [e1]; rfl
 have jwb:rj.wb=pj.flatMap Pm.wb:=by rw [e1]; rfl
 have jwr:rj.wr=pj.flatMap Pm.wr:=by rw [e1]; rfl
 have jtc:rj.tc=pj.flatMap Pm.tc:=by rw [e1]; rfl
 have jfz:rj.fz=pj.any Pm.fz:=by rw [e1]; rfl
 have jrv:rj.rv=(rj.ks.flatMap fun i=>(st.slot i).dO)++rj.kb.flatMap fun s=>Ad (st.box s):=by rw [e1]; rfl
 have iws:ri.ws=pi.flatMap Pm.ws:=by rw [e2]; rfl
 have iwb:ri.wb=pi.flatMap Pm.wb:=by rw [e2]; rfl
 have iwr:ri.wr=pi.flatMap Pm.wr:=by rw [e2]; rfl
 have itc:ri.tc=pi.flatMap Pm.tc:=by rw [e2]; rfl
 have ifz:ri.fz=pi.any Pm.fz:=by rw [e2]; rfl
 have jts:∀ k x,x∈(st.slot k).dO→x∈rj.tc→k∈rj.ts:=by
  intro k x hx hc
  rw [e1]
  rw [jtc] at hc
  unfold nC
  simp only
  have hne:(pj.flatMap Pm.tc).isEmpty=false:=by
   cases hl:pj.flatMap Pm.tc with
   |nil=>rw [hl] at hc; cases hc
   |cons a l=>rfl
  rw [hne]
  exact wF.2 ⟨x,hx,hc⟩
 have jtb:∀ s x,x∈Ad (st.box s)→x∈rj.tc→s∈rj.tb:=by
  intro s x hx hc
  rw [e1]
  rw [jtc] at hc
  unfold nC
  simp only
  have hne:(pj.flatMap Pm.tc).isEmpty=false:=by
   cases hl:pj.flatMap Pm.tc with
   |nil=>rw [hl] at hc; cases hc
   |cons a l=>rfl
  rw [hne]
  exact (yZ hs).2 ⟨x,hx,hc⟩
 have s1:=zM (st:=aN pj st) (st':=st) h2 (dm pj st).symm (tO pj hs) hs
  (fun k hk=>(sG (fun hw=>hi.a k (jws ▸ hw) hk) (fun x hx hT=>hi.ts k (jts k x hx (jtc ▸ hT)) hk)).symm)
  (fun s hk=>(uQ (fun hw=>hi.d s (jwb ▸ hw) hk) (fun x hx hT=>hi.tb s (jtb s x hx (jtc ▸ hT)) hk)).symm)
 have sk:∀ k∈rj.ks,(aN pi st).slot k=st.slot k:=fun k hk=>sG (fun hw=>hi.c k (iws ▸ hw) hk) (fun x hx hT=>hi.l x (itc ▸ hT) (by rw [jrv]; exact List.mem_append_left _ (List.mem_flatMap.2 ⟨k,hk,hx⟩)))
 have sb:∀ s∈rj.kb,(aN pi st).box s=st.box s:=fun s hk=>uQ (fun hw=>hi.f s (iwb ▸ hw) hk) (fun x hx hT=>hi.l x (itc ▸ hT) (by rw [jrv]; exact List.mem_append_right _ (List.mem_flatMap.2 ⟨s,hk,hx⟩)))
 have s2:=zM (st:=st) (st':=aN pi st) h1 (dm pi st) hs (tO pi hs) sk sb
 refine ⟨_,_,s1,?_,s2,?_,?_⟩
 ·have:=Cm (v:=(ri.ks,ri.kb)) (ps:=pi) (st:=aN pj st) (st':=st)
   (fun k hk=>(sG (fun hw=>hi.a k (jws ▸ hw) hk) (fun x hx hT=>hi.ts k (jts k x hx (jtc ▸ hT)) hk)).symm)
   (fun s hk=>(uQ (fun hw=>hi.d s (jwb ▸ hw) hk) (fun x hx hT=>hi.tb s (jtb s x hx (jtc ▸ hT)) hk)).symm)
  rw [← e2] at this
  exact this
 ·have sim:=Cm (v:=(rj.ks,rj.kb)) (ps:=pj) (st:=st) (st':=aN pi st) sk sb
  rw [← e1] at sim
  refine ⟨sim,fun k hk=> ?_,fun s hk=> ?_⟩
  ·unfold nC at hk
   simp only at hk
   cases hem:(pj.flatMap Pm.tc).isEmpty with
   |true=>rw [hem] at hk; cases hk
   |false=>
    rw [hem] at hk
    obtain ⟨x,hx,hc⟩:=wF.1 (show k∈mQ (pj.flatMap Pm.tc) 0 (aN pi st).sl from hk)
    rcases yN hx with h3|h3
    ·exact jts k x h3 (jtc ▸ hc)
    ·exact absurd (iwr ▸ h3) (hi.h x (jtc ▸ hc))
  ·unfold nC at hk
   simp only at hk
   cases hem:(pj.flatMap Pm.tc).isEmpty with
   |true=>rw [hem] at hk; cases hk
   |false=>
    rw [hem] at hk
    obtain ⟨x,hx,hc⟩:=(yZ (tO pi hs)).1 (show s∈zu (pj.flatMap Pm.tc) (aN pi st).bx from hk)
    rcases tT hx with h3|h3
    ·exact jtb s x h3 (jtc ▸ hc)
    ·exact absurd (iwr ▸ h3) (hi.h x (jtc ▸ hc))
 ·refine CZ (fun p hp q hq=> ?_) hs
  have m:∀ {f:Pm→List Nat} {x:Nat} {l:List Pm} {p:Pm},p∈l→x∈f p→x∈l.flatMap f:=fun hp hx=>List.mem_flatMap.2 ⟨_,hp,hx⟩
  constructor
  ·exact fun x hx hy=>hi.b x (jws ▸ m hp hx) (iws ▸ m hq hy)
  ·exact fun x hx hy=>hi.e x (jwb ▸ m hp hx) (iwb ▸ m hq hy)
  ·exact fun x hx hy=>hi.h x (jtc ▸ m hp hx) (iwr ▸ m hq hy)
  ·exact fun x hx hy=>hi.m x (itc ▸ m hq hx) (jwr ▸ m hp hy)
  ·exact fun x hx hy=>hi.n x (jtc ▸ m hp hx) (iwb ▸ m hq hy)
  ·exact fun x hx hy=>hi.p x (itc ▸ m hq hx) (jwb ▸ m hp hy)
  ·intro hf
   have:=hi.q (by rw [jfz]; exact List.any_eq_true.2 ⟨p,hp,hf⟩)
   rw [itc] at this
   exact List.flatMap_eq_nil_iff.1 this q hq
  ·intro hf
   have:=hi.r (by rw [ifz]; exact List.any_eq_true.2 ⟨q,hq,hf⟩)
   rw [jtc] at this
   exact List.flatMap_eq_nil_iff.1 this p hp
def Runs (E:Env) (D:aH) (all:List Oper) (rc:Nat→Rec):List Nat→St→St→Prop
 | [],st,st'=>st=st'
 |i::L,st,st'=>∃ o ps r0,all[i]?=some o∧pV E D all o st=some (r0,ps)∧vH r0 (rc i)∧Runs E D all rc L (aN ps st) st'
theorem Runs.front {rc:Nat→Rec} {i:Nat} {ys:List Nat}:∀ {l:List Nat} {st st':St},st.srt→Runs E D all rc (l++i::ys) st st'→(∀ x∈l,Ind (rc x) (rc i))→
  ∃ o ps r0,all[i]?=some o∧pV E D all o st=some (r0,ps)∧RecSim r0 (rc i)∧Runs E D all rc (l++ys) (aN ps st) st':=by
 intro l
 induction l with
 |nil=>rintro st st' _ ⟨o,ps,r0,h1,h2,h3,h4⟩ _; exact ⟨o,ps,r0,h1,h2,h3.toRecSim,h4⟩
 |cons x l ih=>
  rintro st st' hs ⟨o,ps,r0,h1,h2,h3,h4⟩ hi
  obtain ⟨oi,pi,ri,g1,g2,g3,g4⟩:=ih (tO ps hs) h4 fun y hy=>hi y (by simp [hy])
  obtain ⟨ri',rj',s1,s2,s3,s4,s5⟩:=Ib hs h2 g2 ((hi x (by simp)).of h3 g3)
  refine ⟨oi,pi,ri',g1,s1,s2.trans g3,o,ps,rj',h1,s3,s4.trans h3,?_⟩
  rw [← s5]; exact g4
end Go.Own
set_option linter.unusedVariables false
namespace Go.Own
variable {C:Cx} {P:Program} {E:Env} {w w' w2:World} {I I' I1 I2:Nat→Prop} {st sv st':St} {tm:Array Value} {tk tk':aU} {ds:List Deferred} {o:Oper} {e:Ef} {D:aH} {all:List Oper}
theorem AU (dst:Option Nat) (e:Ef) (st:St):aN (nN dst e) st=e.run dst st:=by
 unfold nN Ef.run
 cases e.v with
 |none=>rfl
 |some v=>
  cases dst with
  |none=>rfl
  |some d=>simp only; rw [dD]; rfl
theorem Ff {ops:Array Oper} {rc:Rec} {ps:List Pm} (hE:eD C.P E) (hD:kJ C.P D) (h:Inv C st tm w I tk) (hd:∀ d,o.dst=some d→d<st.sl.length) (hf:pV E D ops.toList o st=some (rc,ps))
  {K:Act→World→Prop} {Q:Exit→Act→World→Prop} (hK:∀ v w' I' tk',Inv C (aN ps st) (wM tm o.dst v) w' I' tk'→K ⟨wM tm o.dst v,ds⟩ w'):
  if Region.wanted o (yielded ops tm) then o.wp C.P ⟨tm,ds⟩ w K Q else K (Act.put ⟨tm,ds⟩ o.dst undef) w:=by
 have doK:∀ {g},goD E D o g st=some (rc,ps)→o.wp C.P ⟨tm,ds⟩ w K Q:=by
  intro g hg
  unfold goD at hg
  split at hg
  ·rename_i b he
   cases hc:b.res.1 with
   |false=>rw [hc] at hg; cases hg
   |true=>
    rw [hc] at hg
    cases hg
    rw [AU] at hK
    exact Aa (ds:=ds) hE hD (KQ _ _ st) h hd he hc hK
  ·cases hg
 have dead:ps=nN o.dst ⟨[],some .und⟩→K (Act.put ⟨tm,ds⟩ o.dst undef) w:=by
  rintro rfl
  rw [AU] at hK
  rw [xE]
  cases hod:o.dst with
  |none=>
   have:=hK undef w I tk (by rw [hod]; exact h)
   rwa [hod] at this
  |some q=>
   have h2:=h.put (d:=q) (s:= .und) (v:=undef) (hd q hod) (bf.of1 (v:= .und) rfl)
   have:=hK undef w I _ (by rw [hod]; exact h2)
   rwa [hod] at this
 unfold pV at hf
 split at hf
 ·rename_i hg
  rw [if_pos (BU hg)]
  exact doK hf
 ·rename_i d want hg
  split at hf
  ·rename_i b hb
   have hbl:d<st.sl.length:=wG hb (by simp)
   have hr:=h.slots d hbl
   rw [hb] at hr
   rw [yG hg (h.len ▸ hbl) (bO.1 hr)]
   split at hf
   ·rename_i e
    rw [if_pos (by simpa using e)]
    exact doK hf
   ·rename_i e
    rw [if_neg (by simpa using e)]
    simp only [Ch,Option.some.injEq,Prod.mk.injEq] at hf
    exact dead hf.2.symm
  ·rename_i hb
   have hbl:d<st.sl.length:=wG hb (by simp)
   have hr:=h.slots d hbl
   rw [hb] at hr
   rw [if_neg (by rw [zA hg (h.len ▸ hbl) hr]; decide)]
   simp only [Ch,Option.some.injEq,Prod.mk.injEq] at hf
   exact dead hf.2.symm
  ·cases hf
 ·cases hf
def idx (n:Nat):Nat→List Nat
 |0=> []
 |m+1=>n::idx (n+1) m
theorem Bb {R:Type} {r:R} {k:St→Option R} {ah:List Nat}:∀ (os:List Oper) (n:Nat) {acc:List (Nat×Rec)} {st:St},(∀ j o,os[j]?=some o→all[n+j]?=some o)→
  Ku E D all ah (numbered n os) acc st k=some r→
  ∃ (rc:Nat→Rec) (st':St),Runs E D all rc (idx n os.length) st st'∧k st'=some r∧
   (∀ p∈acc,∀ i∈idx n os.length,(ah.getD i 0).testBit p.1=true∨indep p.2 (rc i)=true)∧
   (∀ j∈idx n os.length,∀ i∈idx n os.length,j<i→(ah.getD i 0).testBit j=true∨indep (rc j) (rc i)=true):=by
 intro os
 induction os with
 |nil=>intro n acc st _ h; exact ⟨fun _=>default,st,rfl,h,(fun p _ i hi=>by cases hi),fun j hj=>by cases hj⟩
 |cons o os ih=>
  intro n acc st hall h
  simp only [numbered,Ku] at h
  obtain ⟨r0,ps,h1,h2⟩:=GJ h
  cases hc:acc.all (fun p=>(ah.getD n 0).testBit p.1||indep p.2 r0) with
  |false=>rw [hc] at h2; cases h2
  |true=>
   simp only [hc,cond_true] at h2
   obtain ⟨rc,st',h3,h4,h5,h6⟩:=ih (n+1) (fun j o' hj=>by have:=hall (j+1) o' (by simpa using hj); rwa [show n+(j+1)=n+1+j by omega] at this) h2
   have mem:∀ (m:Nat) {a x:Nat},x∈idx a m→a≤x:=by
    intro m
    induction m with
    |zero=>intro a x hx; cases hx
    |succ m ih=>
     intro a x hx
     rcases List.mem_cons.1 hx with rfl|hx
     ·exact Nat.le_refl _
     ·have:=ih hx; omega
   let rc':Nat→Rec:=fun i=>if i=n then r0 else rc i
   have hrc:∀ i∈idx (n+1) os.length,rc' i=rc i:=fun i hi=>by
    have:=mem _ hi
    simp only [rc']; rw [if_neg (by omega)]
   have runs:∀ (L:List Nat) {s s':St},(∀ i∈L,rc' i=rc i)→Runs E D all rc L s s'→Runs E D all rc' L s s':=by
    intro L
    induction L with
    |nil=>intro s s' _ h; exact h
    |cons i L ih=>
     rintro s s' he ⟨o,ps,r1,q1,q2,q4,q3⟩
     exact ⟨o,ps,r1,q1,q2,by rw [he i (by simp)]; exact q4,ih (fun x hx=>he x (by simp [hx])) q3⟩
   refine ⟨rc',st',⟨o,ps,r0,by have:=hall 0 o rfl; simpa using this,h1,by simp only [rc',if_true]; exact vH.refl r0,runs _ hrc h3⟩,h4,fun p hp i hi=> ?_,fun j hj i hi hji=> ?_⟩
   ·rcases List.mem_cons.1 hi with rfl|hi
    ·have:=List.all_eq_true.1 hc p hp
     simpa [rc'] using this
    ·rw [hrc i hi]; exact h5 p (List.mem_cons_of_mem _ hp) i hi
   ·rcases List.mem_cons.1 hi with rfl|hi
    ·rcases List.mem_cons.1 hj with rfl|hj
     ·omega
     ·have:=mem _ hj; omega
    ·rw [hrc i hi]
     rcases List.mem_cons.1 hj with rfl|hj
     ·have:=h5 (j,r0) (by simp) i hi
      simpa [rc'] using this
     ·rw [hrc j hj]; exact h6 j hj i hi hji
theorem Jz (ops:List Oper):∀ (i:Nat),(uI ops)[i]?=(ops[i]?).map fun o=>o.after.toList.foldl (fun s e=>bif Region.binds .any e then s||| 2^e.on||| ((uI ops).take i).getD e.on 0 else s) 0:=by
 have key:∀ (l:List Oper) (acc:List Nat),let F:=l.foldl (fun acc o=>acc++ [o.after.toList.foldl (fun s e=>bif Region.binds .any e then s||| 2^e.on||| acc.getD e.on 0 else s) 0]) acc
   F.take acc.length=acc∧∀ i,F[acc.length+i]?=(l[i]?).map fun o=>o.after.toList.foldl (fun s e=>bif Region.binds .any e then s||| 2^e.on||| (F.take (acc.length+i)).getD e.on 0 else s) 0:=by
  intro l
  induction l with
  |nil=>intro acc; simp
  |cons o l ih=>
   intro acc
   simp only [List.foldl_cons]
   obtain ⟨h1,h2⟩:=ih (acc++ [o.after.toList.foldl (fun s e=>bif Region.binds .any e then s||| 2^e.on||| acc.getD e.on 0 else s) 0])
   generalize hF:l.foldl (fun acc o=>acc++ [o.after.toList.foldl (fun s e=>bif Region.binds .any e then s||| 2^e.on||| acc.getD e.on 0 else s) 0]) (acc++ [o.after.toList.foldl (fun s e=>bif Region.binds .any e then s||| 2^e.on||| acc.getD e.on 0 else s) 0])=F at*
   simp only [List.length_append,List.length_cons,List.length_nil,Nat.zero_add] at h1 h2
   have ht:F.take acc.length=acc:=by
    have:=congrArg (List.take acc.length) h1
    rw [List.take_take,Nat.min_eq_left (by omega)] at this
    rw [this]; simp
   refine ⟨ht,fun i=> ?_⟩
   cases i with
   |zero=>
    have h3:F[acc.length]?=(F.take (acc.length+1))[acc.length]?:=by rw [List.getElem?_take]; simp
    simp only [Nat.add_zero]
    rw [h3,h1,ht]; simp
   |succ i=>
    have:=h2 i
    rw [show acc.length+(i+1)=acc.length+1+i by omega,this]; rfl
 intro i
 have:=(key ops []).2 i
 simpa [uI] using this
theorem testBit_fold (g:Edge→Nat) (x:Nat):∀ (l:List Edge) (s:Nat),(l.foldl (fun s e=>bif Region.binds .any e then s||| 2^e.on||| g e else s) s).testBit x=true→s.testBit x=true∨∃ e∈l,Region.binds .any e=true∧(e.on=x∨(g e).testBit x=true):=by
 intro l
 induction l with
 |nil=>intro s h; exact .inl h
 |cons e l ih=>
  intro s h
  simp only [List.foldl_cons] at h
  rcases ih _ h with h|⟨e',h1,h2⟩
  ·cases hb:Region.binds .any e with
   |false=>simp only [hb,cond_false] at h; exact .inl h
   |true=>
    simp only [hb,cond_true,Nat.testBit_or,Bool.or_eq_true,Nat.testBit_two_pow,decide_eq_true_eq] at h
    rcases h with (h|h)|h
    ·exact .inl h
    ·exact .inr ⟨e,by simp,hb,.inl h⟩
    ·exact .inr ⟨e,by simp,hb,.inr h⟩
  ·exact .inr ⟨e',by simp [h1],h2⟩
theorem JA {ops:List Oper} {i x:Nat} (h:((uI ops).getD i 0).testBit x=true):∃ o,ops[i]?=some o∧∃ e∈o.after.toList,Region.binds .any e=true∧(e.on=x∨(e.on<i∧((uI ops).getD e.on 0).testBit x=true)):=by
 rw [List.getD_eq_getElem?_getD,Jz] at h
 cases ho:ops[i]? with
 |none=>rw [ho] at h; simp at h
 |some o=>
  rw [ho] at h
  simp only [Option.map_some,Option.getD_some] at h
  rcases testBit_fold _ x _ _ h with h|⟨e,h1,h2,h3⟩
  ·simp at h
  ·refine ⟨o,rfl,e,h1,h2,h3.imp id fun h4=> ?_⟩
   rw [List.getD_eq_getElem?_getD,List.getElem?_take] at h4
   split at h4
   ·rename_i hlt; exact ⟨hlt,by rw [List.getD_eq_getElem?_getD]; exact h4⟩
   ·simp at h4
theorem EC {ops:Array Oper} {listed:Array Bool} (hdown:∀ (i:Nat) (o:Oper),ops[i]?=some o→listed.getD i false=true→∀ e∈o.after.toList,Region.binds .any e=true→listed.getD e.on false=true):
  ∀ (n i x:Nat),i<n→(∀ (o:Oper),ops[i]?=some o→∀ e∈o.after.toList,Region.binds .any e=true→listed.getD e.on false=true)→((uI ops.toList).getD i 0).testBit x=true→listed.getD x false=true:=by
 intro n
 induction n with
 |zero=>intro i x hi; omega
 |succ n ih=>
  intro i x hi h hb
  obtain ⟨o,ho,e,h1,h2,h3⟩:=JA hb
  have ho':ops[i]?=some o:=by simpa using ho
  have hl:=h o ho' e h1 h2
  rcases h3 with rfl|⟨h3,h4⟩
  ·exact hl
  ·exact ih e.on x (by omega) (fun o' ho2=>hdown e.on o' ho2 hl) h4
theorem mem_ready {ops:Array Oper} {listed:Array Bool} {i:Nat} (h:i∈Region.ready .any ops listed):i<ops.size∧listed.getD i true=false∧∀ (o:Oper),ops[i]?=some o→∀ e∈o.after.toList,Region.binds .any e=true→listed.getD e.on false=true:=by
 unfold Region.ready at h
 obtain ⟨h1,h2⟩:=List.mem_filter.1 h
 have hi:i<ops.size:=by simpa using h1
 simp only [Bool.and_eq_true,Bool.not_eq_true'] at h2
 refine ⟨hi,h2.1,fun o ho e he hb=> ?_⟩
 have h3:=h2.2
 rw [ho] at h3
 simp only [Option.map_some,Option.getD_some] at h3
 rw [Array.all_eq_true'] at h3
 have:=h3 e (by simpa using he)
 simpa [hb] using this
theorem M6 {ops:Array Oper} {listed:Array Bool} {i:Nat} {o:Oper} (ho:ops[i]?=some o) (hl:listed.getD i true=false) (h:∀ e∈o.after.toList,Region.binds .any e=true→listed.getD e.on false=true):i∈Region.ready .any ops listed:=by
 have hi:i<ops.size:=by
  rcases Nat.lt_or_ge i ops.size with h1|h1
  ·exact h1
  ·rw [Array.getElem?_eq_none h1] at ho; cases ho
 unfold Region.ready
 refine List.mem_filter.2 ⟨by simpa using hi,?_⟩
 simp only [Bool.and_eq_true,Bool.not_eq_true']
 refine ⟨hl,?_⟩
 rw [ho]
 simp only [Option.map_some,Option.getD_some]
 rw [Array.all_eq_true']
 intro e he
 cases hb:Region.binds .any e
 ·rfl
 ·simpa using h e (by simpa using he) hb
structure Left (ops:Array Oper) (listed:Array Bool) (R:List Nat):Prop where
 size:listed.size=ops.size
 mem:∀ i,i∈R↔i<ops.size∧listed.getD i true=false
 sorted:R.Pairwise (· < ·)
 down:∀ (i:Nat) (o:Oper),ops[i]?=some o→listed.getD i false=true→∀ e∈o.after.toList,Region.binds .any e=true→listed.getD e.on false=true
theorem Ba {ops:Array Oper} {rc:Nat→Rec} {stE:St} {Q:Exit→Act→World→Prop} {n:Nat} (hE:eD C.P E) (hD:kJ C.P D) (hdst:∀ o∈ops.toList,∀ d,o.dst=some d→d<n)
  (hback:∀ (i:Nat) (o:Oper),ops[i]?=some o→∀ e∈o.after.toList,Region.binds .any e=true→e.on<i)
  (hind:∀ i j,i<ops.size→j<i→((uI ops.toList).getD i 0).testBit j=true∨indep (rc j) (rc i)=true)
  (hQ:∀ tm w I tk,stE.sl.length=n→Inv C stE tm w I tk→Q .normal ⟨tm,ds⟩ w):
  ∀ (fuel:Nat) {R:List Nat} {listed:Array Bool} {st:St} {tm:Array Value} {w:World} {I:Nat→Prop} {tk:aU},R.length≤fuel→Left ops listed R→st.sl.length=n→Inv C st tm w I tk→Runs E D ops.toList rc R st stE→
   wpAny C.P .any ops Q fuel listed ⟨tm,ds⟩ w:=by
 intro fuel
 induction fuel with
 |zero=>
  intro R listed st tm w I tk hl hleft hn h hr
  have hR:R= []:=List.length_eq_zero_iff.1 (by omega)
  subst hR
  refine ⟨?_,?_⟩
  ·apply List.eq_nil_iff_forall_not_mem.2
   intro i hi
   obtain ⟨h1,h2,_⟩:=mem_ready hi
   exact absurd ((hleft.mem i).2 ⟨h1,h2⟩) (by simp)
  ·have e:st=stE:=hr
   subst e
   exact hQ tm w I tk hn h
 |succ fuel ih=>
  intro R listed st tm w I tk hl hleft hn h hr
  refine ⟨fun hnil=> ?_,fun i hi=> ?_⟩
  ·
   cases R with
   |nil=>
    have e:st=stE:=hr
    subst e
    exact hQ tm w I tk hn h
   |cons i R=>
    exfalso
    obtain ⟨o,ps,_,ho,_⟩:=hr
    have ho':ops[i]?=some o:=by simpa using ho
    obtain ⟨h1,h2⟩:=(hleft.mem i).1 (by simp)
    have:i∈Region.ready .any ops listed:=M6 ho' h2 fun e he hb=>by
     have hlt:=hback i o ho' e he hb
     have hsz:e.on<listed.size:=by rw [hleft.size]; omega
     cases hc:listed.getD e.on false with
     |true=>rfl
     |false=>
      exfalso
      have:e.on∈i::R:=(hleft.mem e.on).2 ⟨by omega,by simpa [Array.getD,hsz] using hc⟩
      rcases List.mem_cons.1 this with h3|h3
      ·omega
      ·have:=List.rel_of_pairwise_cons hleft.sorted h3; omega
    rw [hnil] at this; cases this
  ·obtain ⟨h1,h2,h3⟩:=mem_ready hi
   have hiR:i∈R:=(hleft.mem i).2 ⟨h1,h2⟩
   obtain ⟨l,ys,rfl⟩:=List.append_of_mem hiR
   have hlt:∀ x∈l,x<i:=fun x hx=>by
    have:=List.pairwise_append.1 hleft.sorted
    exact this.2.2 x hx i (by simp)
   have hfront:=hr.front h.srt (fun x hx=>by
    refine IZ ?_
    rcases hind i x h1 (hlt x hx) with hb|hb
    ·exfalso
     have:=EC hleft.down (i+1) i x (by omega) h3 hb
     have h4:=((hleft.mem x).1 (by simp [hx])).2
     have hxs:x<listed.size:=by rw [hleft.size]; exact ((hleft.mem x).1 (by simp [hx])).1
     simp [Array.getD,hxs] at this h4
     rw [this] at h4; cases h4
    ·exact hb)
   obtain ⟨o,ps,_,ho,hs,_,hrest⟩:=hfront
   have ho':ops[i]?=some o:=by simpa using ho
   have hom:o∈ops.toList:=List.mem_of_getElem? ho
   unfold wpOp
   rw [ho']
   simp only
   have hnext:Left ops (listed.setIfInBounds i true) (l++ys):=by
    have hnd:i∉l++ys:=by
     intro hc
     have hp:=List.pairwise_append.1 hleft.sorted
     rcases List.mem_append.1 hc with hc|hc
     ·have:=hlt i hc; omega
     ·have:=List.rel_of_pairwise_cons hp.2.1 hc; omega
    have gd:∀ (x:Nat) (b:Bool),(listed.setIfInBounds i true).getD x b=if x=i then (if i<listed.size then true else b) else listed.getD x b:=by
     intro x b
     by_cases hxi:x=i
     ·subst hxi
      by_cases hx:x<listed.size<;>simp [Array.getD,hx]
     ·rw [if_neg hxi]
      have hne:i≠x:=fun e=>hxi e.symm
      simp [Array.getD_eq_getD_getElem?,Array.getElem?_setIfInBounds_ne hne]
    refine ⟨by simpa using hleft.size,fun x=> ?_,?_,?_⟩
    ·have hm:=hleft.mem x
     rw [gd]
     by_cases hxi:x=i
     ·subst hxi
      rw [if_pos rfl,if_pos (by rw [hleft.size]; exact h1)]
      constructor
      ·intro hc; exact absurd hc hnd
      ·intro hc; cases hc.2
     ·rw [if_neg hxi,← hm]
      simp [hxi]
    ·have hp:=List.pairwise_append.1 hleft.sorted
     refine List.pairwise_append.2 ⟨hp.1,(List.pairwise_cons.1 hp.2.1).2,fun a ha b hb=>hp.2.2 a ha b (by simp [hb])⟩
    ·intro x q hq hx e he hb
     rw [gd] at hx ⊢
     have hsz:i<listed.size:=by rw [hleft.size]; exact h1
     by_cases hei:e.on=i
     ·rw [if_pos hei,if_pos hsz]
     ·rw [if_neg hei]
      by_cases hxi:x=i
      ·subst hxi; exact h3 q hq e he hb
      ·rw [if_neg hxi] at hx; exact hleft.down x q hq hx e he hb
   have:=Ff (ds:=ds) (o:=o) (Q:=Q) (K:=wpAny C.P .any ops Q fuel (listed.setIfInBounds i true)) hE hD h (fun d hd=>by rw [hn]; exact hdst o hom d hd) hs (fun v w' I' tk' hi=>
    ih (by simp at hl ⊢; omega) hnext (by rw [dm]; exact hn) hi hrest)
   split
   ·rename_i hw; rw [if_pos hw] at this; exact .inl this
   ·rename_i hw; rw [if_neg hw] at this; exact this
theorem sO:∀ (m:Nat) {a x:Nat},x∈idx a m↔a≤x∧x<a+m:=by
 intro m
 induction m with
 |zero=>intro a x; simp only [idx,List.not_mem_nil,false_iff]; omega
 |succ m ih=>
  intro a x
  simp only [idx,List.mem_cons,ih]
  omega
theorem AP:∀ (m a:Nat),(idx a m).Pairwise (· < ·):=by
 intro m
 induction m with
 |zero=>intro a; exact List.Pairwise.nil
 |succ m ih=>intro a; exact List.pairwise_cons.2 ⟨fun x hx=>by have:=(sO m).1 hx; omega,ih _⟩
theorem AQ:∀ (m a:Nat),(idx a m).length=m:=by
 intro m
 induction m with
 |zero=>intro a; rfl
 |succ m ih=>intro a; simp [idx,ih]
theorem wP:∀ (l:List Oper) (n i:Nat),(numbered n l)[i]?=(l[i]?).map fun o=>(n+i,o):=by
 intro l
 induction l with
 |nil=>intro n i; simp [numbered]
 |cons o l ih=>
  intro n i
  cases i with
  |zero=>simp [numbered]
  |succ i=>simp only [numbered,List.getElem?_cons_succ,ih]; rw [show n+1+i=n+(i+1) by omega]
theorem BK {R:Type} {r:R} {id:Nat} {ops:Array Oper} {k:St→Option R} {Q:Exit→Act→World→Prop} {n:Nat} (hE:eD C.P E) (hD:kJ C.P D) (hdst:∀ o∈ops.toList,∀ d,o.dst=some d→d<n)
  (hk:∀ st tm w I tk,k st=some r→st.sl.length=n→Inv C st tm w I tk→Q .normal ⟨tm,ds⟩ w) (h:Inv C st tm w I tk) (hn:st.sl.length=n) (hf:wL E D ops.toList st k=some r):
  (Code.region id ops true).wp C.P Q ⟨tm,ds⟩ w:=by
 unfold wL at hf
 cases hb:OH (numbered 0 ops.toList) with
 |false=>simp [hb] at hf
 |true=>
  simp only [hb,cond_true] at hf
  obtain ⟨rc,stE,h1,h2,_,h4⟩:=Bb ops.toList 0 (fun j o hj=>by simpa using hj) hf
  refine wp_region_any hE.mixed ?_
  have hg:=h.grow (w':= {w with drawn:=w.drawn+1}) (lg.drew w)
  refine Ba (ds:=ds) (n:=n) hE hD hdst ?_ ?_ (fun tm w I tk hl hi=>hk stE tm w I tk h2 hl hi) ops.size ?_ ?_ hn hg h1
  ·intro i o ho e he hbe
   have:=List.all_eq_true.1 hb (i,o) (List.mem_of_getElem? (i:=i) (by rw [wP]; simp [ho]))
   have h5:=List.all_eq_true.1 this e he
   simp only [hbe,Bool.not_true,Bool.false_or] at h5
   exact Nat.le_of_ble_eq_true h5
  ·intro i j hi hji
   exact h4 j ((sO _).2 ⟨by omega,by simp; omega⟩) i ((sO _).2 ⟨by omega,by simp; omega⟩) hji
  ·rw [AQ]; simp
  ·refine ⟨by simp,fun i=> ?_,AP _ _,fun i o ho hl=> ?_⟩
   ·rw [sO]
    constructor
    ·intro hi; have h6:i<ops.size:=by simpa using hi.2
     exact ⟨h6,by simp [Array.getD,h6]⟩
    ·intro hi; exact ⟨by omega,by simpa using hi.1⟩
   ·exfalso
    simp only [Array.getD,Array.size_replicate] at hl
    split at hl
    ·simp at hl
    ·cases hl
end Go.Own
set_option linter.unusedVariables false
namespace Go.Own
variable {C:Cx} {P:Program} {E:Env} {w w' w2:World} {I I' I1 I2:Nat→Prop} {st sv st':St} {tm:Array Value} {tk tk':aU} {ds:List Deferred} {o:Oper} {R:Type}
def Rz (n:Nat) (o:Oper):Bool:=match o.dst with|some d=>decide (d<n)|none=>true
def lY (n:Nat):Code→Bool
 | .region _ ops _=>ops.toList.all (Rz n)
 | .seq a b=>lY n a&&lY n b
 | .cond _ a b=>lY n a&&lY n b
 | .block _ a=>lY n a
 | .loop a=>lY n a
 | .scope a=>lY n a
 | .rangeFunc .. =>false
 |_=>true
def Ex.out:Ex→Exit
 | .normal=> .normal
 | .exit id=> .exit id
 | .ret=> .ret
def KH {R:Type} (C:Cx) (ds:List Deferred) (n:Nat) (r:R) (k:Ex→St→Option R) (Q:Exit→Act→World→Prop):Prop:=
 ∀ ex st tm w I tk,k ex st=some r→st.sl.length=n→Inv C st tm w I tk→Q ex.out ⟨tm,ds⟩ w
def fE:Code→List Code
 | .seq a b=>fE a++fE b
 | .cond _ a b=>fE a++fE b
 | .block _ a=>fE a
 | .loop a=>a::fE a
 | .scope a=>fE a
 |_=> []
def xI {R:Type} (r:R) (C:Cx) (ds:List Deferred) (n:Nat) (loop:Dq R) (body:Code):Prop:=
 ∀ {j:Nat} {st:St} {tm:Array Value} {w:World} {I:Nat→Prop} {tk:aU} {k:Ex→St→Option R} {Q:Exit→Act→World→Prop},lY n body=true→loop j body st k=some r→st.sl.length=n→
  Inv C st tm w I tk→KH C ds n r k Q→(Code.loop body).wp C.P Q ⟨tm,ds⟩ w
theorem uy {D:aH} {loop:Dq R} {r:R} {n:Nat} (hE:eD C.P E) (hD:kJ C.P D):∀ (c:Code) {st:St} {tm:Array Value} {w:World} {I:Nat→Prop} {tk:aU} {k:Ex→St→Option R} {Q:Exit→Act→World→Prop},
  (∀ body∈fE c,xI r C ds n loop body)→lY n c=true→mX E D loop c st k=some r→st.sl.length=n→Inv C st tm w I tk→KH C ds n r k Q→c.wp C.P Q ⟨tm,ds⟩ w:=by
 intro c
 induction c with
 |skip=>intro st tm w I tk k Q _ _ hf hn h hk; exact wp_skip (hk .normal st tm w I tk hf hn h)
 |label l=>intro st tm w I tk k Q _ _ hf hn h hk; exact wp_label (hk .normal st tm w I tk hf hn h)
 |exit id=>intro st tm w I tk k Q _ _ hf hn h hk; exact wp_exit (hk (.exit id) st tm w I tk hf hn h)
 |ret=>intro st tm w I tk k Q _ _ hf hn h hk; exact wp_ret (hk .ret st tm w I tk hf hn h)
 |goto l=>intro st tm w I tk k Q _ _ hf; cases hf
 |refuse why=>intro st tm w I tk k Q _ _ hf; cases hf
 |rangeFunc f ps a b=>intro st tm w I tk k Q _ hd; cases hd
 |region id ops drawn=>
  intro st tm w I tk k Q _ hd hf hn h hk
  have hdst:∀ o∈ops.toList,∀ d,o.dst=some d→d<n:=by
   intro o ho d hod
   have:=List.all_eq_true.1 hd o ho
   simpa [Rz,hod] using this
  cases drawn with
  |true=>
   simp only [mX,cond_true] at hf
   exact BK (k:=k .normal) hE hD hdst (fun st tm w I tk e1 e2 e3=>hk .normal st tm w I tk e1 e2 e3) h hn hf
  |false=>
   simp only [mX,cond_false] at hf
   exact wp_region_list (Iz hE hD (k:=k .normal) (Q:=Q) (fun st tm w I tk e1 e2 e3=>hk .normal st tm w I tk e1 e2 e3) ops.toList hdst h hn hf)
 |seq a b iha ihb=>
  intro st tm w I tk k Q hL hd hf hn h hk
  simp only [lY,Bool.and_eq_true] at hd
  simp only [mX] at hf
  refine wp_seq (iha (fun x hx=>hL x (by simp [fE,hx])) hd.1 hf hn h ?_)
  intro ex st1 tm1 w1 I1 tk1 e1 e2 e3
  cases ex with
  |normal=>exact ihb (fun x hx=>hL x (by simp [fE,hx])) hd.2 e1 e2 e3 hk
  |exit id=>exact hk (.exit id) _ _ _ _ _ e1 e2 e3
  |ret=>exact hk .ret _ _ _ _ _ e1 e2 e3
 |cond c a b iha ihb=>
  intro st tm w I tk k Q hL hd hf hn h hk
  simp only [lY,Bool.and_eq_true] at hd
  simp only [mX] at hf
  have hc:=fe (ds:=ds) (View.refl st) h c
  split at hf
  ·rename_i t e
   rw [e] at hc
   refine wp_cond (t:=t) (bO.1 hc) ?_
   cases t with
   |true=>exact iha (fun x hx=>hL x (by simp [fE,hx])) hd.1 hf hn h hk
   |false=>exact ihb (fun x hx=>hL x (by simp [fE,hx])) hd.2 hf hn h hk
  ·cases hf
 |block id a iha=>
  intro st tm w I tk k Q hL hd hf hn h hk
  simp only [mX] at hf
  refine wp_block (iha hL hd hf hn h ?_)
  intro ex st1 tm1 w1 I1 tk1 e1 e2 e3
  cases ex with
  |normal=>exact hk .normal _ _ _ _ _ e1 e2 e3
  |exit i=>
   show (if i=id then Q .normal ⟨tm1,ds⟩ w1 else Q (.exit i) ⟨tm1,ds⟩ w1)
   cases hi:i== id with
   |true=>
    simp only [hi,cond_true] at e1
    rw [if_pos (by simpa using hi)]
    exact hk .normal _ _ _ _ _ e1 e2 e3
   |false=>
    simp only [hi,cond_false] at e1
    rw [if_neg (by simpa using hi)]
    exact hk (.exit i) _ _ _ _ _ e1 e2 e3
  |ret=>exact hk .ret _ _ _ _ _ e1 e2 e3
 |loop a iha=>
  intro st tm w I tk k Q hL hd hf hn h hk
  exact hL a (by simp [fE]) hd hf hn h hk
 |scope a iha=>
  intro st tm w I tk k Q hL hd hf hn h hk
  refine wp_scope_straight (iha hL hd hf hn h ?_)
  intro ex st1 tm1 w1 I1 tk1 e1 e2 e3
  cases ex with
  |normal=>exact hk .normal _ _ _ _ _ e1 e2 e3
  |exit i=>exact hk (.exit i) _ _ _ _ _ e1 e2 e3
  |ret=>exact hk .ret _ _ _ _ _ e1 e2 e3
theorem Al {D:aH} {loop:Dq R} {r:R} {n:Nat} (hE:eD C.P E) (hD:kJ C.P D) {body:Code} (hL:∀ b∈fE body,xI r C ds n loop b):
  ∀ (q:Nat) {st:St} {tm:Array Value} {w:World} {I:Nat→Prop} {tk:aU} {k:Ex→St→Option R} {Q:Exit→Act→World→Prop},lY n body=true→Ke (fun st k=>mX E D loop body st k) q st k=some r→st.sl.length=n→
   Inv C st tm w I tk→KH C ds n r k Q→(Code.loop body).wp C.P Q ⟨tm,ds⟩ w:=by
 intro q st tm w I tk k Q hd hf hn h hk
 refine wp_loop_rounds q ?_
 induction q generalizing st tm w I tk with
 |zero=>cases hf
 |succ q ihq=>
  rw [rounds_succ]
  refine uy hE hD body hL hd hf hn h ?_
  intro ex st1 tm1 w1 I1 tk1 e1 e2 e3
  cases ex with
  |normal=>exact ihq e1 e2 e3
  |exit i=>exact hk (.exit i) _ _ _ _ _ e1 e2 e3
  |ret=>exact hk .ret _ _ _ _ _ e1 e2 e3
end Go.Own
