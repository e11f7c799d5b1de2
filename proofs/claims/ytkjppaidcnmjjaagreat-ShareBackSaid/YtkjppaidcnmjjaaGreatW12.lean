/- What is proved: the evaluator of the translated code, and that it is sound, part 12. Conditions: those that each theorem names. -/
import Derived.Test.YtkjppaidcnmjjaaGreatW11
import Derived.Orders
import Derived.LoopN
import Derived.Scope
set_option linter.unusedVariables false
set_option linter.unusedSimpArgs false
set_option linter.unusedVariables false
namespace Go.Own
variable {C:Cx} {P:Program} {E:Env} {w w' w2:World} {I I' I1 I2:Nat→Prop} {st sv st':St} {tm:Array Value} {tk tk':bg} {ds:List Deferred} {o:Oper} {e:Ef}
theorem Av {s:Nat} {v:SV} (h:s∉v.sites):v.eG s=v:=by
 have one:∀ {r:Nat},s∉ [r]→Nat.beq r s=false:=fun h=>eU.2 fun e=>h (by simp [e])
 cases v with
 |sd d=>simp only [SV.eG,DV.jN]; rw [jG s h]
 |va r t=>simp only [SV.eG]; rw [one h]; rfl
 |vs r t pa lo n=>simp only [SV.eG]; rw [one h]; rfl
 |pb r t pa=>simp only [SV.eG]; rw [one h]; rfl
 |mp r k v=>simp only [SV.eG]; rw [one h]; rfl
 |ud r t=>simp only [SV.eG]; rw [one h]; rfl
 |_=>rfl
theorem map_none {f:SV→SV} {l:List SV} (h:∀ v∈l,f v=v):l.map f=l:=by
 have:l.map f=l.map id:=List.map_congr_left h
 rw [this,List.map_id]
theorem lN {s:Nat} {v:SV} (h:s∉v.dY):v.kill s=v:=by
 have flat:∀ l:List SV,s∉l.flatMap SV.sites→l.map (SV.eG s)=l:=fun l h=>map_none fun v hv=>Av fun hm=>h (List.mem_flatMap.2 ⟨v,hv,hm⟩)
 cases hv:v.jr with
 |true=>rw [nP hv]; exact Av (by rw [← iR hv]; exact h)
 |false=>
  cases v with
  |clo f caps=>simp only [SV.kill]; rw [flat caps h]
  |tup l=>simp only [SV.kill]; rw [flat l h]
  |_=>cases hv
theorem LH (s:Nat) (c:DV):∀ {t:Ty} {x:t.den},s∉mentions t→fK s c t x=⟨t,x⟩:=by
 have one:∀ {r:Nat},s∉ [r]→Nat.beq r s=false:=fun h=>eU.2 fun e=>h (by simp [e])
 intro t
 induction t with
 |pair a b iha ihb=>
  intro x hs
  simp only [mentions,List.mem_append,not_or] at hs
  have h1:=iha (x:=x.1) hs.1
  have h2:=ihb (x:=x.2) hs.2
  simp only [fK]
  generalize fK s c a x.1=d1 at h1 ⊢
  generalize fK s c b x.2=d2 at h2 ⊢
  subst h1
  subst h2
  rfl
 |arr n t ih=>intro x hs; simp only [fK]; exact jG s hs
 |sf r t pa=>intro x hs; simp only [fK]; rw [one hs]; rfl
 |vw r t=>intro x hs; simp only [fK]; rw [one hs]; rfl
 |pt r t pa=>intro x hs; simp only [fK]; rw [one hs]; rfl
 |mp r k v=>intro x hs; simp only [fK]; rw [one hs]; rfl
 |rid r t=>intro x hs; simp only [fK]; rw [one hs]; rfl
 |dyn t ih=>intro x hs; simp only [fK,DV.jN]; exact jG s hs
 |_=>intro x hs; rfl
theorem CY {s:Nat} {c:DV} {v:SV} (h:s∉v.sites):v.l8 s c=v:=by
 have one:∀ {r:Nat},s∉ [r]→Nat.beq r s=false:=fun h=>eU.2 fun e=>h (by simp [e])
 cases v with
 |sd d=>
  simp only [SV.l8]
  have:(mentions d.1).any (Nat.beq s)=false:=by
   rw [List.any_eq_false]
   intro x hx e
   have:=beq_iff.1 e
   subst this
   exact h hx
  rw [this]; rfl
 |va r t=>simp only [SV.l8]; rw [one h]; rfl
 |vs r t pa lo n=>simp only [SV.l8]; rw [one h]; rfl
 |pb r t pa=>simp only [SV.l8]; rw [one h]; rfl
 |mp r k v=>simp only [SV.l8]; rw [one h]; rfl
 |ud r t=>simp only [SV.l8]; rw [one h]; rfl
 |_=>rfl
theorem any_none {s:Nat} {l:List Nat} (h:s∉l):l.any (Nat.beq s)=false:=by
 rw [List.any_eq_false]
 intro x hx e
 have:=beq_iff.1 e
 subst this
 exact h hx
theorem LJ {s:Nat} {c:DV} {v:SV} (h:s∉v.dY):v.BQ s c=v:=by
 have flat:∀ l:List SV,s∉l.flatMap SV.sites→l.map (SV.l8 s c)=l:=fun l h=>map_none fun v hv=>CY fun hm=>h (List.mem_flatMap.2 ⟨v,hv,hm⟩)
 cases hv:v.jr with
 |true=>rw [A7 hv]; exact CY (by rw [← iR hv]; exact h)
 |false=>
  cases v with
  |clo f caps=>simp only [SV.BQ]; rw [flat caps h]
  |tup l=>simp only [SV.BQ]; rw [flat l h]
  |_=>cases hv
theorem zy {s:Nat} {u:Ty} {l:List (Nat×List u.den)} {v:SV} (h:s∉v.sites):SV.oU s u l v=v:=by
 cases v<;>first|rfl|skip
 rename_i d
 simp only [SV.oU]
 rw [any_none (l:=mentions d.1) h]; rfl
theorem oJ {s:Nat} {u:Ty} {l:List (Nat×List u.den)} {v:SV} (h:s∉v.dY):SV.thaw s u l v=v:=by
 have flat:∀ r:List SV,s∉r.flatMap SV.sites→r.map (SV.oU s u l)=r:=fun r h=>map_none fun v hv=>zy fun hm=>h (List.mem_flatMap.2 ⟨v,hv,hm⟩)
 cases hv:v.jr with
 |true=>rw [zw hv]; exact zy (by rw [← iR hv]; exact h)
 |false=>
  cases v with
  |clo f caps=>simp only [SV.thaw]; rw [flat caps h]
  |tup r=>simp only [SV.thaw]; rw [flat r h]
  |_=>cases hv
theorem Gx {s:Nat} {c:DV} {v:SV} (h:s∉v.dY):v.frz s c=v:=by
 cases hp:c.1.fD with
 |false=>rw [IZ hp]; exact LJ h
 |true=>
  obtain ⟨t,x⟩:=c
  cases t<;>first|cases hp; done|skip
  simp only [SV.frz]
  rw [oJ h,lN h]
theorem Km {s:Nat} {c d:DV} (h:s∉mentions d.1):DV.fz s c d=d:=by
 cases hp:c.1.fD with
 |false=>rw [NW hp]; exact LH s c h
 |true=>
  obtain ⟨t,x⟩:=c
  cases t<;>first|cases hp; done|skip
  simp only [DV.fz,DV.jN,DV.JH]
  rw [any_none h]
  exact jG s h
theorem Gz (s:Nat) (c:DV) (y:Nat):∀ {t:Ty} {x:t.den},y∈mentions (fK s c t x).1→y∈mentions t:=by
 intro t
 induction t with
 |pair a b iha ihb=>
  intro x h
  simp only [fK,mentions,List.mem_append] at h ⊢
  exact h.imp iha ihb
 |arr n t ih=>intro x h; exact fw s y (.arr n t) h
 |sf r t pa=>
  intro x h
  simp only [fK] at h
  cases hb:Nat.beq r s<;>rw [hb] at h
  ·exact h
  ·simp [mentions] at h
 |vw r t=>
  intro x h
  simp only [fK] at h
  cases hb:Nat.beq r s<;>rw [hb] at h
  ·exact h
  ·simp only [cond_true] at h
   split at h<;>simp [mentions] at h
 |pt r t pa=>
  intro x h
  simp only [fK] at h
  cases hb:Nat.beq r s<;>rw [hb] at h
  ·exact h
  ·simp only [cond_true] at h
   split at h
   ·rename_i z hz
    cases hp:z.1.plain<;>rw [hp] at h<;>simp [mentions] at h
   ·simp [mentions] at h
 |mp r k v=>
  intro x h
  simp only [fK] at h
  cases hb:Nat.beq r s<;>rw [hb] at h
  ·exact h
  ·simp [mentions] at h
 |rid r t=>
  intro x h
  simp only [fK] at h
  cases hb:Nat.beq r s<;>rw [hb] at h
  ·exact h
  ·simp [mentions] at h
 |dyn t ih=>intro x h; simp only [fK,DV.jN] at h; exact fw s y (.dyn t) h
 |_=>intro x h; exact h
theorem Cb (s:Nat) (u:Ty) (y:Nat):∀ {t:Ty},y∈mentions (Ty.thaw s u t)→y∈mentions t:=by
 intro t
 induction t with
 |pair a b iha ihb=>
  intro h
  simp only [Ty.thaw,mentions,List.mem_append] at h ⊢
  exact h.imp iha ihb
 |arr n t ih=>intro h; exact ih h
 |dyn t ih=>intro h; exact ih h
 |rid r t=>
  intro h
  simp only [Ty.thaw,thT] at h
  cases hb:Nat.beq r s<;>rw [hb] at h
  ·exact h
  ·cases hd:decide (u=t)<;>rw [hd] at h<;>simp [mentions] at h
 |_=>intro h; exact h
theorem J5 {d:DV} {y:Nat} (h:y∈(mkS d).sites):y∈mentions d.1:=by
 unfold mkS at h
 cases hp:d.1.plain<;>rw [hp] at h
 ·exact h
 ·simp [SV.sites] at h
theorem GA (s:Nat) (c:DV) (y:Nat) (v:SV) (h:y∈(v.l8 s c).sites):y∈v.sites:=by
 cases v with
 |sd d=>
  simp only [SV.l8] at h
  cases hm:(mentions d.1).any (Nat.beq s)<;>rw [hm] at h
  ·exact h
  ·exact Gz s c y (J5 h)
 |va r t=>
  simp only [SV.l8] at h
  cases hb:Nat.beq r s<;>rw [hb] at h
  ·exact h
  ·simp only [cond_true] at h; split at h<;>simp [SV.sites] at h
 |vs r t pa lo n=>
  simp only [SV.l8] at h
  cases hb:Nat.beq r s<;>rw [hb] at h
  ·exact h
  ·simp only [cond_true] at h; split at h<;>simp [SV.sites] at h
 |pb r t pa=>
  simp only [SV.l8] at h
  cases hb:Nat.beq r s<;>rw [hb] at h
  ·exact h
  ·simp only [cond_true] at h
   split at h
   ·rename_i z hz
    cases hp:z.1.plain<;>rw [hp] at h<;>simp [SV.sites] at h
   ·simp [SV.sites] at h
 |mp r k v=>
  simp only [SV.l8] at h
  cases hb:Nat.beq r s<;>rw [hb] at h
  ·exact h
  ·simp [SV.sites] at h
 |ud r t=>
  simp only [SV.l8] at h
  cases hb:Nat.beq r s<;>rw [hb] at h
  ·exact h
  ·simp [SV.sites] at h
 |_=>exact h
theorem I4 {v:SV} (hv:v.jr=true) (s:Nat) (c:DV):(v.l8 s c).jr=true:=by
 cases v<;>first|(cases hv; done)|rfl|skip
 all_goals simp only [SV.l8]
 ·cases (mentions _).any (Nat.beq s)
  ·rfl
  ·exact J6 _
 ·cases Nat.beq _ s
  ·rfl
  ·simp only [cond_true]; split<;>rfl
 ·cases Nat.beq _ s
  ·rfl
  ·simp only [cond_true]; split<;>rfl
 ·cases Nat.beq _ s
  ·rfl
  ·simp only [cond_true]
   split
   ·rename_i z hz; cases z.1.plain<;>rfl
   ·rfl
 ·cases Nat.beq _ s<;>rfl
 ·cases Nat.beq _ s<;>rfl
theorem N8 (s:Nat) (c:DV) (y:Nat) (v:SV) (h:y∈(v.BQ s c).dY):y∈v.dY:=by
 have flat:∀ l:List SV,y∈(l.map (SV.l8 s c)).flatMap SV.sites→y∈l.flatMap SV.sites:=by
  intro l h
  rw [List.mem_flatMap] at h ⊢
  obtain ⟨a,ha,hs⟩:=h
  rw [List.mem_map] at ha
  obtain ⟨b,hb,rfl⟩:=ha
  exact ⟨b,hb,GA s c y b hs⟩
 cases hv:v.jr with
 |true=>rw [A7 hv,iR (I4 hv s c)] at h; rw [iR hv]; exact GA s c y v h
 |false=>
  cases v with
  |clo f caps=>exact flat caps h
  |tup l=>exact flat l h
  |_=>cases hv
theorem Cc (s:Nat) (u:Ty) (l:List (Nat×List u.den)) (y:Nat) (v:SV) (h:y∈(SV.oU s u l v).sites):y∈v.sites:=by
 cases v<;>first|exact h|skip
 rename_i d
 simp only [SV.oU] at h
 cases hm:(mentions d.1).any (Nat.beq s)<;>rw [hm] at h
 ·exact h
 ·exact Cb s u y (J5 h)
theorem MB (s:Nat) (u:Ty) (l:List (Nat×List u.den)) (y:Nat) (v:SV) (h:y∈(SV.thaw s u l v).dY):y∈v.dY:=by
 have flat:∀ r:List SV,y∈(r.map (SV.oU s u l)).flatMap SV.sites→y∈r.flatMap SV.sites:=by
  intro r h
  rw [List.mem_flatMap] at h ⊢
  obtain ⟨a,ha,hs⟩:=h
  rw [List.mem_map] at ha
  obtain ⟨b,hb,rfl⟩:=ha
  exact ⟨b,hb,Cc s u l y b hs⟩
 cases hv:v.jr with
 |true=>rw [zw hv,iR (Fb hv)] at h; rw [iR hv]; exact Cc s u l y v h
 |false=>
  cases v with
  |clo f caps=>exact flat caps h
  |tup r=>exact flat r h
  |_=>cases hv
theorem Qx (s:Nat) (c:DV) (y:Nat) (v:SV) (h:y∈(v.frz s c).dY):y∈v.dY:=by
 cases hp:c.1.fD with
 |false=>rw [IZ hp] at h; exact N8 s c y v h
 |true=>
  obtain ⟨t,x⟩:=c
  cases t<;>first|cases hp; done|skip
  exact MB s _ x y v (Au s y _ h)
theorem Sl (s:Nat) (c:DV) (y:Nat) {d:DV} (h:y∈mentions (DV.fz s c d).1):y∈mentions d.1:=by
 cases hp:c.1.fD with
 |false=>rw [NW hp] at h; exact Gz s c y h
 |true=>
  obtain ⟨t,x⟩:=c
  cases t<;>first|cases hp; done|skip
  simp only [DV.fz,DV.jN,DV.Fa] at h
  exact Cb s _ y (fw s y _ h)
end Go.Own
set_option linter.unusedVariables false
namespace Go.Own
variable {C:Cx} {P:Program} {E:Env} {w w' w2:World} {I I' I1 I2:Nat→Prop} {st sv st':St} {tm:Array Value} {tk tk':bg} {ds:List Deferred} {o:Oper} {e:Ef}
theorem rf:∀ {l:List (Nat×DV)} {s:Nat},(∀ x∈l.map (·.1),s<x)→eH l s=none
 | [],_,_=>rfl
 |x::l,s,h=>by
  simp only [eH]
  have:s<x.1:=h x.1 (by simp)
  rw [eU.2 (by omega)]
  exact rf fun y hy=>h y (by simp at hy ⊢; exact .inr hy)
theorem JK:∀ {l l':List (Nat×DV)},(l.map (·.1)).Pairwise (· < ·)→(l'.map (·.1)).Pairwise (· < ·)→(∀ s,eH l s=eH l' s)→l=l'
 | [],[],_,_,_=>rfl
 | [],y::l',_,_,h=>by have:=h y.1; simp [eH] at this
 |x::l,[],_,_,h=>by have:=h x.1; simp [eH] at this
 |x::l,y::l',h1,h2,h=>by
  simp only [List.map_cons,List.pairwise_cons] at h1 h2
  have hxy:x.1=y.1:=by
   rcases Nat.lt_trichotomy x.1 y.1 with hlt|heq|hgt
   ·have e1:=h x.1
    have:eH (y::l') x.1=none:=rf (by
     intro z hz
     rcases List.mem_cons.1 hz with rfl|hz
     ·exact hlt
     ·exact Nat.lt_trans hlt (h2.1 z hz))
    rw [this] at e1
    simp [eH] at e1
   ·exact heq
   ·have e1:=h y.1
    have:eH (x::l) y.1=none:=rf (by
     intro z hz
     rcases List.mem_cons.1 hz with rfl|hz
     ·exact hgt
     ·exact Nat.lt_trans hgt (h1.1 z hz))
    rw [this] at e1
    simp [eH] at e1
  have e2:=h x.1
  simp only [eH,hxy,Nat.beq_refl,cond_true,Option.some.injEq] at e2
  have hx:x=y:=Prod.ext hxy e2
  subst hx
  congr 1
  refine JK h1.2 h2.2 fun s=> ?_
  have e3:=h s
  simp only [eH] at e3
  by_cases hs:x.1=s
  ·subst hs
   rw [rf h1.1,rf h2.1]
  ·rw [eU.2 hs] at e3
   exact e3
theorem MF (h1:st.sl.length=st'.sl.length) (h2:∀ i,st.slot i=st'.slot i) (h3:st.srt) (h4:st'.srt) (h5:∀ s,st.box s=st'.box s):st=st':=by
 obtain ⟨sl,bx⟩:=st
 obtain ⟨sl',bx'⟩:=st'
 have e2:bx=bx':=JK h3 h4 h5
 have e1:sl=sl':=by
  apply List.ext_getElem h1
  intro i hi hi'
  have:=h2 i
  unfold St.slot at this
  simpa [List.getD_eq_getElem?_getD,List.getElem?_eq_getElem hi,List.getElem?_eq_getElem hi'] using this
 rw [e1,e2]
theorem rE (p:Pm) (h:st.srt):(p.run st).srt:=by
 cases p with
 |set i v=>exact h
 |ins s d=>exact mV h s d
 |kill s=>
  unfold St.srt at*
  simp only [Pm.run,St.kill,List.map_map]
  exact h
 |frz s c=>
  have h1:St.srt ⟨st.sl.map (SV.frz s c),st.bx.map fun x=>(x.1,DV.fz s c x.2)⟩:=by
   unfold St.srt at*
   simp only [List.map_map]
   exact h
  exact Dy h1 s
 |del s=>exact Dy h s
theorem sN:∀ (ps:List Pm) {st:St},st.srt→(aV ps st).srt
 | [],_,h=>h
 |p::ps,_,h=>sN ps (rE p h)
def om (p:Pm) (n i:Nat) (v:SV):SV:=match p with
 | .set j u=>if j=i∧i<n then u else v
 | .kill s=>v.kill s
 | .frz s c=>v.frz s c
 |_=>v
theorem qP (p:Pm) (st:St) (i:Nat):(p.run st).slot i=om p st.sl.length i (st.slot i):=by
 cases p with
 |set j u=>
  simp only [Pm.run,om]
  by_cases hj:j<st.sl.length
  ·rw [Fp st j i u hj]
   by_cases hi:i=j
   ·subst hi; simp [hj]
   ·rw [if_neg hi,if_neg (fun h=>hi h.1.symm)]
  ·have:({st with sl:=st.sl.set j u}:St)=st:=by rw [List.set_eq_of_length_le (by omega)]
   rw [this,if_neg (fun h:j=i∧i<st.sl.length=>hj (by rw [h.1]; exact h.2))]
 |kill s=>exact mW s i st
 |frz s c=>exact ql s i c st
 |ins s d=>rfl
 |del s=>rfl
def ji (p:Pm) (r:Nat) (b:Option DV):Option DV:=match p with
 | .set _ _=>b
 | .ins s d=>if r=s then some d else b
 | .kill s=>b.map (DV.kill s)
 | .frz s c=>if r=s then none else b.map (DV.fz s c)
 | .del s=>if r=s then none else b
theorem r9 (p:Pm) (st:St) (r:Nat):(p.run st).box r=ji p r (st.box r):=by
 cases p with
 |set j u=>rfl
 |ins s d=>exact gZ st s r d
 |kill s=>exact mI s r st
 |frz s c=>exact si s r c st
 |del s=>exact nN st s r
theorem Ig {p:Pm} {n i:Nat} {v:SV} (h1:i∉p.ws) (h2:∀ x∈v.dY,x∉p.tc):om p n i v=v:=by
 cases p with
 |set j u=>simp only [om]; rw [if_neg (fun h=>h1 (by simp [Pm.ws,h.1]))]
 |kill s=>exact lN fun hm=>h2 s hm (by simp [Pm.tc])
 |frz s c=>exact Gx fun hm=>h2 s hm (by simp [Pm.tc])
 |ins s d=>rfl
 |del s=>rfl
theorem rH:∀ {ps:List Pm} {st:St} {i:Nat},i∉ps.flatMap Pm.ws→(∀ x∈(st.slot i).dY,x∉ps.flatMap Pm.tc)→(aV ps st).slot i=st.slot i
 | [],_,_,_,_=>rfl
 |p::ps,st,i,h1,h2=>by
  simp only [List.flatMap_cons,List.mem_append,not_or] at h1 h2
  have e:(p.run st).slot i=st.slot i:=by rw [qP]; exact Ig h1.1 fun x hx=>(h2 x hx).1
  have:=rH (ps:=ps) (st:=p.run st) (i:=i) h1.2 (by rw [e]; exact fun x hx=>(h2 x hx).2)
  exact this.trans e
theorem L8 {p:Pm} {r:Nat} {b:Option DV} (h1:r∉p.wb) (h2:∀ x∈Ad b,x∉p.tc):ji p r b=b:=by
 cases p with
 |set j u=>rfl
 |ins s d=>simp only [ji]; rw [if_neg (fun h=>h1 (by simp [Pm.wb,h]))]
 |kill s=>
  cases b with
  |none=>rfl
  |some d=>simp only [ji,Option.map_some]; rw [jG s (t:=d.1) (x:=d.2) fun hm=>h2 s hm (by simp [Pm.tc])]
 |frz s c=>
  simp only [ji]
  rw [if_neg (fun h=>h1 (by simp [Pm.wb,h]))]
  cases b with
  |none=>rfl
  |some d=>simp only [Option.map_some]; rw [Km (d:=d) fun hm=>h2 s hm (by simp [Pm.tc])]
 |del s=>simp only [ji]; rw [if_neg (fun h=>h1 (by simp [Pm.wb,h]))]
theorem uo:∀ {ps:List Pm} {st:St} {r:Nat},r∉ps.flatMap Pm.wb→(∀ x∈Ad (st.box r),x∉ps.flatMap Pm.tc)→(aV ps st).box r=st.box r
 | [],_,_,_,_=>rfl
 |p::ps,st,i,h1,h2=>by
  simp only [List.flatMap_cons,List.mem_append,not_or] at h1 h2
  have e:(p.run st).box i=st.box i:=by rw [r9]; exact L8 h1.1 fun x hx=>(h2 x hx).1
  have:=uo (ps:=ps) (st:=p.run st) (r:=i) h1.2 (by rw [e]; exact fun x hx=>(h2 x hx).2)
  exact this.trans e
theorem yB:∀ {ps:List Pm} {st:St} {i x:Nat},x∈((aV ps st).slot i).dY→x∈(st.slot i).dY∨x∈ps.flatMap Pm.wr
 | [],_,_,_,h=> .inl h
 |p::ps,st,i,x,h=>by
  simp only [List.flatMap_cons,List.mem_append]
  rcases yB (ps:=ps) (st:=p.run st) h with h|h
  ·rw [qP] at h
   cases p with
   |set j u=>
    simp only [om] at h
    split at h
    ·exact .inr (.inl h)
    ·exact .inl h
   |kill s=>exact .inl (Au s x _ h)
   |frz s c=>exact .inl (Qx s c x _ h)
   |ins s d=>exact .inl h
   |del s=>exact .inl h
  ·exact .inr (.inr h)
theorem sP:∀ {ps:List Pm} {st:St} {r x:Nat},x∈Ad ((aV ps st).box r)→x∈Ad (st.box r)∨x∈ps.flatMap Pm.wr
 | [],_,_,_,h=> .inl h
 |p::ps,st,r,x,h=>by
  simp only [List.flatMap_cons,List.mem_append]
  rcases sP (ps:=ps) (st:=p.run st) h with h|h
  ·rw [r9] at h
   cases p with
   |set j u=>exact .inl h
   |ins s d=>
    simp only [ji] at h
    split at h
    ·exact .inr (.inl h)
    ·exact .inl h
   |kill s=>
    simp only [ji] at h
    cases hb:st.box r with
    |none=>rw [hb] at h; exact .inl h
    |some d=>rw [hb] at h; exact .inl (fw s x d.1 h)
   |frz s c=>
    simp only [ji] at h
    split at h
    ·cases h
    ·cases hb:st.box r with
     |none=>rw [hb] at h; exact .inl h
     |some d=>rw [hb] at h; exact .inl (Sl s c x (d:=d) h)
   |del s=>
    simp only [ji] at h
    split at h
    ·cases h
    ·exact .inl h
  ·exact .inr (.inr h)
theorem q8 {u v:Ty} {x:v.den} {a s r:Nat} (e1:∀ q,DV.kill q ⟨v,x⟩=⟨kv (Nat.beq a q) u v,kvX (Nat.beq a q) u v x⟩):DV.kill s (DV.kill r ⟨v,x⟩)=DV.kill r (DV.kill s ⟨v,x⟩):=by
 have t:∀ q,Nat.beq a q=true→DV.kill q ⟨v,x⟩=⟨.junk u,()⟩:=fun q h=>by rw [e1,h]; rfl
 have f:∀ q,Nat.beq a q=false→DV.kill q ⟨v,x⟩=⟨v,x⟩:=fun q h=>by rw [e1,h]; rfl
 have j:∀ q,DV.kill q (⟨.junk u,()⟩:DV)=⟨.junk u,()⟩:=fun _=>rfl
 cases hr:Nat.beq a r<;>cases hs:Nat.beq a s
 ·rw [f r hr,f s hs,f r hr]
 ·rw [f r hr,t s hs,j]
 ·rw [t r hr,f s hs,t r hr,j]
 ·rw [t r hr,t s hs,j,j]
theorem Bf (s r:Nat):∀ {t:Ty} {x:t.den},DV.kill s (DV.kill r ⟨t,x⟩)=DV.kill r (DV.kill s ⟨t,x⟩):=by
 intro t
 induction t with
 |pair a b iha ihb=>
  intro x
  have pk:∀ (q:Nat) (d1 d2:DV),DV.kill q ⟨.pair d1.1 d2.1,(d1.2,d2.2)⟩=⟨.pair (DV.kill q d1).1 (DV.kill q d2).1,((DV.kill q d1).2,(DV.kill q d2).2)⟩:=fun _ _ _=>rfl
  have h1:=iha (x:=x.1)
  have h2:=ihb (x:=x.2)
  have e:(⟨.pair a b,x⟩:DV)=⟨.pair (⟨a,x.1⟩:DV).1 (⟨b,x.2⟩:DV).1,((⟨a,x.1⟩:DV).2,(⟨b,x.2⟩:DV).2)⟩:=rfl
  rw [e,pk,pk,pk,pk,h1,h2]
 |arr n t ih=>
  intro l
  have e:∀ (q1 q2:Nat),DV.kill q1 (DV.kill q2 ⟨.arr n t,l⟩)=⟨.arr n ((t.kill q2).kill q1),l.map fun x=>iT q1 (t.kill q2) (iT q2 t x)⟩:=by
   intro q1 q2
   show (⟨.arr n ((t.kill q2).kill q1),iT q1 (.arr n (t.kill q2)) (iT q2 (.arr n t) l)⟩:DV)=_
   rw [uF,uF,List.map_map]
   rfl
  have aux:∀ (T1 T2:Ty) (f:t.den→T1.den) (g:t.den→T2.den),T1=T2→(∀ x,HEq (f x) (g x))→(⟨.arr n T1,l.map f⟩:DV)=⟨.arr n T2,l.map g⟩:=by
   rintro T1 _ f g rfl h
   have:f=g:=funext fun x=>eq_of_heq (h x)
   rw [this]
  have key:∀ x:t.den,(⟨(t.kill r).kill s,iT s (t.kill r) (iT r t x)⟩:DV)=⟨(t.kill s).kill r,iT r (t.kill s) (iT s t x)⟩:=fun x=>ih (x:=x)
  rw [e,e]
  exact aux _ _ _ _ (congrArg Sigma.fst (key t.dflt)) fun x=>(Sigma.mk.inj (key x)).2
 |sf a t pa=>intro x; exact q8 (u:= .slf) (a:=a) fun _=>rfl
 |vw a t=>intro x; exact q8 (u:= .sl t) (a:=a) fun _=>rfl
 |pt a t pa=>intro x; exact q8 (u:= .ref t) (a:=a) fun _=>rfl
 |mp a k v=>intro x; exact q8 (u:= .mp 0 k v) (a:=a) fun _=>rfl
 |rid a t=>intro x; exact q8 (u:= .sl t) (a:=a) fun _=>rfl
 |dyn t ih=>
  intro l
  have e:∀ (q1 q2:Nat),DV.kill q1 (DV.kill q2 ⟨.dyn t,l⟩)=⟨.dyn ((t.kill q2).kill q1),(l.1,l.2.map fun x=>iT q1 (t.kill q2) (iT q2 t x))⟩:=by
   intro q1 q2
   show (⟨.dyn ((t.kill q2).kill q1),iT q1 (.dyn (t.kill q2)) (iT q2 (.dyn t) l)⟩:DV)=_
   rw [xO,xO,List.map_map]
   rfl
  have aux:∀ (T1 T2:Ty) (f:t.den→T1.den) (g:t.den→T2.den),T1=T2→(∀ x,HEq (f x) (g x))→(⟨.dyn T1,(l.1,l.2.map f)⟩:DV)=⟨.dyn T2,(l.1,l.2.map g)⟩:=by
   rintro T1 _ f g rfl h
   have:f=g:=funext fun x=>eq_of_heq (h x)
   rw [this]
  have key:∀ x:t.den,(⟨(t.kill r).kill s,iT s (t.kill r) (iT r t x)⟩:DV)=⟨(t.kill s).kill r,iT r (t.kill s) (iT s t x)⟩:=fun x=>ih (x:=x)
  rw [e,e]
  exact aux _ _ _ _ (congrArg Sigma.fst (key t.dflt)) fun x=>(Sigma.mk.inj (key x)).2
 |_=>intro x; rfl
theorem Aw (s r:Nat) (v:SV):(v.eG s).eG r=(v.eG r).eG s:=by
 cases v with
 |sd d=>simp only [SV.eG,DV.jN]; rw [Bf r s]
 |va a t=>simp only [SV.eG]; cases h1:Nat.beq a s<;>cases h2:Nat.beq a r<;>simp only [cond_true,cond_false,SV.eG,h1,h2]
 |vs a t pa lo n=>simp only [SV.eG]; cases h1:Nat.beq a s<;>cases h2:Nat.beq a r<;>simp only [cond_true,cond_false,SV.eG,h1,h2]
 |pb a t pa=>simp only [SV.eG]; cases h1:Nat.beq a s<;>cases h2:Nat.beq a r<;>simp only [cond_true,cond_false,SV.eG,h1,h2]
 |mp a k x=>simp only [SV.eG]; cases h1:Nat.beq a s<;>cases h2:Nat.beq a r<;>simp only [cond_true,cond_false,SV.eG,h1,h2]
 |ud a t=>simp only [SV.eG]; cases h1:Nat.beq a s<;>cases h2:Nat.beq a r<;>simp only [cond_true,cond_false,SV.eG,h1,h2]
 |_=>rfl
theorem LC (s r:Nat) (v:SV):(v.kill s).kill r=(v.kill r).kill s:=by
 have flat:∀ l:List SV,(l.map (SV.eG s)).map (SV.eG r)=(l.map (SV.eG r)).map (SV.eG s):=by
  intro l
  simp only [List.map_map]
  exact List.map_congr_left fun v _=>Aw s r v
 cases hv:v.jr with
 |true=>rw [nP hv,nP hv,nP (uG hv s),nP (uG hv r)]; exact Aw s r v
 |false=>
  cases v with
  |clo f caps=>simp only [SV.kill,flat]
  |tup l=>simp only [SV.kill,flat]
  |_=>cases hv
structure Hz (p q:Pm):Prop where
 ws:∀ x∈p.ws,x∉q.ws
 wb:∀ x∈p.wb,x∉q.wb
 a:∀ x∈p.tc,x∉q.wr
 b:∀ x∈q.tc,x∉p.wr
 c:∀ x∈p.tc,x∉q.wb
 d:∀ x∈q.tc,x∉p.wb
 f:p.fz=true→q.tc= []
 g:q.fz=true→p.tc= []
theorem Hz.symm {p q:Pm} (h:Hz p q):Hz q p:=⟨fun x hx hy=>h.ws x hy hx,fun x hx hy=>h.wb x hy hx,h.b,h.a,h.d,h.c,h.g,h.f⟩
theorem Ih {p q:Pm} (h:Hz p q) (n i:Nat) (v:SV):om p n i (om q n i v)=om q n i (om p n i v):=by
 have setk:∀ {j:Nat} {u:SV} {s:Nat},s∉u.dY→om (.set j u) n i (v.kill s)=(om (.set j u) n i v).kill s:=by
  intro j u s hs
  simp only [om]
  split
  ·exact (lN hs).symm
  ·rfl
 have setf:∀ {j:Nat} {u:SV} {s:Nat} {c:DV},s∉u.dY→om (.set j u) n i (v.frz s c)=(om (.set j u) n i v).frz s c:=by
  intro j u s c hs
  simp only [om]
  split
  ·exact (Gx hs).symm
  ·rfl
 cases p with
 |set j u=>
  cases q with
  |set k x=>
   simp only [om]
   have hne:j≠k:=fun e=>h.ws j (by simp [Pm.ws]) (by simp [Pm.ws,e])
   split<;>split<;>first|rfl|(rename_i h1 h2; exact absurd (h1.1.trans h2.1.symm) hne)
  |kill s=>exact setk (h.b s (by simp [Pm.tc]))
  |frz s c=>exact setf (h.b s (by simp [Pm.tc]))
  |ins s d=>rfl
  |del s=>rfl
 |kill r=>
  cases q with
  |set k x=>exact (setk (h.a r (by simp [Pm.tc]))).symm
  |kill s=>exact LC s r v
  |frz s c=>have:=h.g rfl; cases this
  |ins s d=>rfl
  |del s=>rfl
 |frz r c=>
  cases q with
  |set k x=>exact (setf (h.a r (by simp [Pm.tc]))).symm
  |kill s=>have:=h.f rfl; cases this
  |frz s c=>have:=h.f rfl; cases this
  |ins s d=>rfl
  |del s=>rfl
 |ins r d=>cases q<;>rfl
 |del r=>cases q<;>rfl
theorem L9 {p q:Pm} (h:Hz p q) (r:Nat) (b:Option DV):ji p r (ji q r b)=ji q r (ji p r b):=by
 have insk:∀ {s:Nat} {d:DV} {t:Nat},t∉mentions d.1→ji (.ins s d) r (ji (.kill t) r b)=ji (.kill t) r (ji (.ins s d) r b):=by
  intro s d t ht
  simp only [ji]
  split
  ·simp only [Option.map_some]; rw [jG t (t:=d.1) (x:=d.2) ht]
  ·rfl
 have insf:∀ {s:Nat} {d:DV} {t:Nat} {c:DV},t≠s→t∉mentions d.1→ji (.ins s d) r (ji (.frz t c) r b)=ji (.frz t c) r (ji (.ins s d) r b):=by
  intro s d t c hts ht
  simp only [ji]
  split
  ·rename_i hr
   subst hr
   rw [if_neg (fun e=>hts e.symm)]
   simp only [Option.map_some]; rw [Km (d:=d) ht]
  ·rfl
 have insd:∀ {s:Nat} {d:DV} {t:Nat},t≠s→ji (.ins s d) r (ji (.del t) r b)=ji (.del t) r (ji (.ins s d) r b):=by
  intro s d t hts
  simp only [ji]
  split
  ·rename_i hr; subst hr; rw [if_neg (fun e=>hts e.symm)]
  ·rfl
 have killd:∀ {s t:Nat},ji (.kill s) r (ji (.del t) r b)=ji (.del t) r (ji (.kill s) r b):=by
  intro s t
  simp only [ji]
  split<;>rfl
 have frzd:∀ {s t:Nat} {c:DV},ji (.frz s c) r (ji (.del t) r b)=ji (.del t) r (ji (.frz s c) r b):=by
  intro s t c
  simp only [ji]
  split<;>split<;>rfl
 have ne:∀ {x y:Nat},x∈p.wb→y∈q.wb→x≠y:=fun h1 h2 e=>h.wb _ h1 (e ▸ h2)
 cases p with
 |set j u=>rfl
 |ins s d=>
  cases q with
  |set k x=>rfl
  |ins t e=>
   have hne:s≠t:=ne (by simp [Pm.wb]) (by simp [Pm.wb])
   simp only [ji]
   split<;>split<;>first|rfl|(rename_i h1 h2; exact absurd (h1.symm.trans h2) hne)
  |kill t=>exact insk (h.b t (by simp [Pm.tc]))
  |frz t c=>exact insf (fun e=>h.d t (by simp [Pm.tc]) (by simp [Pm.wb,e])) (h.b t (by simp [Pm.tc]))
  |del t=>exact insd (fun e=>ne (x:=s) (y:=t) (by simp [Pm.wb]) (by simp [Pm.wb]) e.symm)
 |kill s=>
  cases q with
  |set k x=>rfl
  |ins t e=>exact (insk (h.a s (by simp [Pm.tc]))).symm
  |kill t=>
   cases b with
   |none=>rfl
   |some d=>simp only [ji,Option.map_some]; rw [Bf s t (t:=d.1) (x:=d.2)]
  |frz t c=>have:=h.g rfl; cases this
  |del t=>exact killd
 |frz s c=>
  cases q with
  |set k x=>rfl
  |ins t e=>exact (insf (fun e=>h.c s (by simp [Pm.tc]) (by simp [Pm.wb,e])) (h.a s (by simp [Pm.tc]))).symm
  |kill t=>have:=h.f rfl; cases this
  |frz t c=>have:=h.f rfl; cases this
  |del t=>exact frzd
 |del s=>
  cases q with
  |set k x=>rfl
  |ins t e=>exact (insd (fun e=>ne (x:=s) (y:=t) (by simp [Pm.wb]) (by simp [Pm.wb]) e)).symm
  |kill t=>exact killd.symm
  |frz t c=>exact frzd.symm
  |del t=>simp only [ji]; split<;>split<;>rfl
theorem LK {p q:Pm} (h:Hz p q) (hs:st.srt):p.run (q.run st)=q.run (p.run st):=by
 refine MF (by rw [Pm.rG,Pm.rG,Pm.rG,Pm.rG]) (fun i=> ?_) (rE p (rE q hs)) (rE q (rE p hs)) fun r=> ?_
 ·rw [qP,qP,qP,qP,Pm.rG,Pm.rG]; exact Ih h _ i _
 ·rw [r9,r9,r9,r9]; exact L9 h r _
theorem C9 {p:Pm}:∀ {qs:List Pm} {st:St},(∀ q∈qs,Hz p q)→st.srt→aV qs (p.run st)=p.run (aV qs st)
 | [],_,_,_=>rfl
 |q::qs,st,h,hs=>by
  simp only [aV]
  rw [← LK (h q (by simp)) hs]
  exact C9 (fun q' hq'=>h q' (by simp [hq'])) (rE q hs)
theorem C8:∀ {ps qs:List Pm} {st:St},(∀ p∈ps,∀ q∈qs,Hz p q)→st.srt→aV qs (aV ps st)=aV ps (aV qs st)
 | [],_,_,_,_=>rfl
 |p::ps,qs,st,h,hs=>by
  simp only [aV]
  rw [C8 (fun p' hp'=>h p' (by simp [hp'])) (rE p hs),C9 (h p (by simp)) hs]
end Go.Own
set_option linter.unusedVariables false
namespace Go.Own
variable {C:Cx} {P:Program} {E:Env} {w w' w2:World} {I I' I1 I2:Nat→Prop} {st sv st':St} {tm:Array Value} {tk tk':bg} {ds:List Deferred} {o:Oper} {e:Ef} {D:aP} {all:List Oper}
theorem any_beq {l:List Nat} {x:Nat}:l.any (Nat.beq x)=true↔x∈l:=by
 rw [List.any_eq_true]
 constructor
 ·rintro ⟨y,hy,e⟩; rw [beq_iff.1 e]; exact hy
 ·intro h; exact ⟨x,h,beq_iff.2 rfl⟩
theorem BX (ks:List Nat):∀ (l:List SV) (i:Nat),(yj ks i l).length=l.length
 | [],_=>rfl
 |v::r,i=>by simp [yj,BX ks r (i+1)]
theorem BZ (ks:List Nat):∀ (l:List SV) (i j:Nat),(yj ks i l).getD j .dead=bif ks.any (Nat.beq (i+j)) then l.getD j .dead else .dead
 | [],i,j=>by simp [yj]
 |v::r,i,0=>by simp [yj]
 |v::r,i,j+1=>by
  simp only [yj,List.getD_cons_succ]
  rw [BZ ks r (i+1) j,show i+1+j=i+(j+1) by omega]
theorem xw (ks kb:List Nat) (st:St) (i:Nat):(st.view ks kb).slot i=bif ks.any (Nat.beq i) then st.slot i else .dead:=by
 have:=BZ ks st.sl 0 i
 rw [Nat.zero_add] at this
 exact this
theorem wO (kb:List Nat) (s:Nat):∀ l:List (Nat×DV),eH (Mk kb l) s=bif kb.any (Nat.beq s) then eH l s else none
 | []=>by cases kb.any (Nat.beq s)<;>rfl
 |x::l=>by
  have ih:=wO kb s l
  unfold Mk at ih ⊢
  simp only [List.filter_cons]
  by_cases hx:x.1=s
  ·subst hx
   cases h:kb.any (Nat.beq x.1) with
   |true=>simp [eH]
   |false=>rw [h] at ih; simpa using ih
  ·have hne:=eU.2 hx
   cases h:kb.any (Nat.beq x.1) with
   |true=>simp only [if_true,eH,hne,cond_false]; exact ih
   |false=>
    have:(if false=true then x::List.filter (fun x=>kb.any (Nat.beq x.1)) l else List.filter (fun x=>kb.any (Nat.beq x.1)) l)=List.filter (fun x=>kb.any (Nat.beq x.1)) l:=by simp
    rw [this,ih]
    simp only [eH,hne,cond_false]
theorem zn (ks kb:List Nat) (st:St) (s:Nat):(st.view ks kb).box s=bif kb.any (Nat.beq s) then st.box s else none:=wO kb s st.bx
theorem EU (ks kb:List Nat) (h:st.srt):(st.view ks kb).srt:=Dx h List.filter_sublist
theorem KS (ks kb:List Nat) (st:St):View (st.view ks kb) st where
 slot:=fun i=>by
  rw [xw]
  cases ks.any (Nat.beq i) with
  |true=>exact .inr rfl
  |false=>exact .inl rfl
 box:=fun s d h=>by
  rw [zn] at h
  cases hb:kb.any (Nat.beq s) with
  |true=>rw [hb] at h; exact h
  |false=>rw [hb] at h; cases h
theorem xG (st:St):∀ (n:Nat) (l acc:List Nat) (x:Nat),x∈acc→x∈mh st n l acc
 |0,l,acc,x,h=>by cases l<;>exact h
 |n+1,[],acc,x,h=>h
 |n+1,s::r,acc,x,h=>by
  simp only [mh]
  cases acc.any (Nat.beq s) with
  |true=>exact xG st n r acc x h
  |false=>exact xG st n _ _ x (List.mem_append_left _ h)
theorem sQ {st st':St}:∀ (n:Nat) (l acc:List Nat),(∀ s∈mh st n l acc,st'.box s=st.box s)→mh st' n l acc=mh st n l acc
 |0,l,acc,h=>by cases l<;>rfl
 |n+1,[],acc,h=>rfl
 |n+1,s::r,acc,h=>by
  simp only [mh] at h ⊢
  cases ha:acc.any (Nat.beq s) with
  |true=>rw [ha] at h; exact sQ n r acc h
  |false=>
   rw [ha] at h
   simp only [cond_false] at h ⊢
   have hs:st'.box s=st.box s:=h s (xG st n _ _ s (by simp))
   rw [hs]
   exact sQ n _ _ h
theorem K5 {g:List Nat} (hk:∀ k∈(sees o g st).1,st'.slot k=st.slot k) (hb:∀ s∈(sees o g st).2,st'.box s=st.box s):sees o g st'=sees o g st:=by
 unfold sees at hk hb ⊢
 simp only at hk hb ⊢
 have e:((g++tmpsIn (looks o)).flatMap fun i=>(st'.slot i).dY)=(g++tmpsIn (looks o)).flatMap fun i=>(st.slot i).dY:=by
  have:∀ l:List Nat,(∀ k∈l,st'.slot k=st.slot k)→(l.flatMap fun i=>(st'.slot i).dY)=l.flatMap fun i=>(st.slot i).dY:=by
   intro l
   induction l with
   |nil=>intro _; rfl
   |cons a l ih=>intro h; rw [List.flatMap_cons,List.flatMap_cons,h a (by simp),ih fun k hk=>h k (by simp [hk])]
  exact this _ hk
 rw [e,sQ 1000 _ _ hb]
theorem KR {ks kb:List Nat} (hl:st'.sl.length=st.sl.length) (hs:st.srt) (hs':st'.srt) (hk:∀ k∈ks,st'.slot k=st.slot k) (hb:∀ s∈kb,st'.box s=st.box s):st'.view ks kb=st.view ks kb:=by
 refine MF (by simp only [St.view,BX]; exact hl) (fun i=> ?_) (EU _ _ hs') (EU _ _ hs) fun s=> ?_
 ·rw [xw,xw]
  cases h:ks.any (Nat.beq i) with
  |true=>simp only [cond_true]; exact hk i (any_beq.1 h)
  |false=>rfl
 ·rw [zn,zn]
  cases h:kb.any (Nat.beq s) with
  |true=>simp only [cond_true]; exact hb s (any_beq.1 h)
  |false=>rfl
def goD (E:Env) (D:aP) (o:Oper) (g:List Nat) (st:St):Option (Rec×List Pm):=
 match FU E D o (st.view (sees o g st).1 (sees o g st).2) with
 |some b=>bif b.res.1 then some (mP (sees o g st) st (nu o.dst b.res.2),nu o.dst b.res.2) else none
 |none=>none
def Cf (o:Oper) (g:Nat) (st:St):Rec×List Pm:=(mP ([g],[]) st (nu o.dst ⟨[],some .und⟩),nu o.dst ⟨[],some .und⟩)
def o8 (E:Env) (D:aP) (all:List Oper) (o:Oper) (st:St):Option (Rec×List Pm):=
 match guardOf all o with
 |some none=>goD E D o [] st
 |some (some (d,want))=>match st.slot d with
  | .p ⟨.bool,b⟩=>if b=want then goD E D o [d] st else some (Cf o d st)
  | .und=>some (Cf o d st)
  |_=>none
 |none=>none
theorem GN {R:Type} {r:R} {k:Rec→List Pm→St→Option R} (h:Je E D all o st k=some r):∃ rc ps,o8 E D all o st=some (rc,ps)∧k rc ps st=some r:=by
 have go:∀ {g:List Nat},(match FU E D o (st.view (sees o g st).1 (sees o g st).2) with
   |some b=>b.k fun e=>k (mP (sees o g st) st (nu o.dst e)) (nu o.dst e) st
   |none=>none)=some r→∃ rc ps,goD E D o g st=some (rc,ps)∧k rc ps st=some r:=by
  intro g hh
  unfold goD
  split at hh
  ·rename_i b he
   obtain ⟨h1,h2⟩:=Brn.Ke hh
   exact ⟨_,_,by rw [h1]; rfl,h2⟩
  ·cases hh
 unfold Je at h
 unfold o8
 dsimp only at h
 split at h
 ·rename_i hg; simp only [hg]; exact go h
 ·rename_i d want hg
  simp only [hg]
  split at h
  ·rename_i b hb
   simp only [hb]
   cases b<;>cases want<;>simp only [cond_true,cond_false] at h
   ·rw [lI hb rfl] at h; rw [if_pos rfl]; exact go h
   ·rw [lI hb rfl] at h; rw [if_neg (by decide)]; exact ⟨_,_,rfl,h⟩
   ·rw [lI hb rfl] at h; rw [if_neg (by decide)]; exact ⟨_,_,rfl,h⟩
   ·rw [lI hb rfl] at h; rw [if_pos rfl]; exact go h
  ·rename_i hb; simp only [hb]; exact ⟨_,_,rfl,h⟩
  ·cases h
 ·cases h
structure RecSim (a b:Rec):Prop where
 ks:a.ks=b.ks
 kb:a.kb=b.kb
 rv:a.rv=b.rv
 ws:a.ws=b.ws
 wb:a.wb=b.wb
 wr:a.wr=b.wr
 tc:a.tc=b.tc
 fz:a.fz=b.fz
theorem RecSim.refl (a:Rec):RecSim a a:=⟨rfl,rfl,rfl,rfl,rfl,rfl,rfl,rfl⟩
theorem RecSim.trans {a b c:Rec} (h:RecSim a b) (k:RecSim b c):RecSim a c:=⟨h.ks.trans k.ks,h.kb.trans k.kb,h.rv.trans k.rv,h.ws.trans k.ws,h.wb.trans k.wb,h.wr.trans k.wr,h.tc.trans k.tc,h.fz.trans k.fz⟩
structure uY (a b:Rec):Prop extends RecSim a b where
 ts:∀ x∈a.ts,x∈b.ts
 tb:∀ x∈a.tb,x∈b.tb
theorem uY.refl (a:Rec):uY a a:=⟨RecSim.refl a,fun _ h=>h,fun _ h=>h⟩
theorem uY.trans {a b c:Rec} (h:uY a b) (k:uY b c):uY a c:=⟨h.toRecSim.trans k.toRecSim,fun x hx=>k.ts x (h.ts x hx),fun x hx=>k.tb x (h.tb x hx)⟩
theorem Ce {rc:Rec} {ps:List Pm} (h:o8 E D all o st=some (rc,ps)):rc=mP (rc.ks,rc.kb) st ps:=by
 have go:∀ {g},goD E D o g st=some (rc,ps)→rc=mP (rc.ks,rc.kb) st ps:=by
  intro g hg
  unfold goD at hg
  split at hg
  ·rename_i b hb
   cases hc:b.res.1 with
   |false=>rw [hc] at hg; cases hg
   |true=>rw [hc] at hg; cases hg; rfl
  ·cases hg
 unfold o8 at h
 split at h
 ·exact go h
 ·split at h
  ·split at h
   ·exact go h
   ·cases h; rfl
  ·cases h; rfl
  ·cases h
 ·cases h
theorem Cj {v:List Nat×List Nat} {ps:List Pm} (hk:∀ k∈v.1,st'.slot k=st.slot k) (hb:∀ s∈v.2,st'.box s=st.box s):RecSim (mP v st' ps) (mP v st ps):=by
 refine ⟨rfl,rfl,?_,rfl,rfl,rfl,rfl,rfl⟩
 unfold mP
 simp only
 have h1:∀ l:List Nat,(∀ k∈l,st'.slot k=st.slot k)→(l.flatMap fun i=>(st'.slot i).dY)=l.flatMap fun i=>(st.slot i).dY:=by
  intro l
  induction l with
  |nil=>intro _; rfl
  |cons a l ih=>intro h; rw [List.flatMap_cons,List.flatMap_cons,h a (by simp),ih fun k hk=>h k (by simp [hk])]
 have h2:∀ l:List Nat,(∀ k∈l,st'.box k=st.box k)→(l.flatMap fun i=>Ad (st'.box i))=l.flatMap fun i=>Ad (st.box i):=by
  intro l
  induction l with
  |nil=>intro _; rfl
  |cons a l ih=>intro h; rw [List.flatMap_cons,List.flatMap_cons,h a (by simp),ih fun k hk=>h k (by simp [hk])]
 rw [h1 _ hk,h2 _ hb]
theorem zF {rc:Rec} {ps:List Pm} (h:o8 E D all o st=some (rc,ps)) (hl:st'.sl.length=st.sl.length) (hs:st.srt) (hs':st'.srt) (hk:∀ k∈rc.ks,st'.slot k=st.slot k) (hb:∀ s∈rc.kb,st'.box s=st.box s):
  o8 E D all o st'=some (mP (rc.ks,rc.kb) st' ps,ps):=by
 have go:∀ {g},goD E D o g st=some (rc,ps)→goD E D o g st'=some (mP (rc.ks,rc.kb) st' ps,ps)∧∀ k∈g,k∈rc.ks:=by
  intro g hg
  unfold goD at hg
  split at hg
  ·rename_i b hop
   cases hc:b.res.1 with
   |false=>rw [hc] at hg; cases hg
   |true=>
    rw [hc] at hg
    cases hg
    have e1:=K5 (o:=o) (g:=g) hk hb
    have e2:=KR hl hs hs' hk hb
    refine ⟨?_,fun k hk=>List.mem_append_left _ hk⟩
    unfold goD
    rw [e1]
    have e3:FU E D o (st'.view (sees o g st).1 (sees o g st).2)=some b:=by
     rw [show st'.view (sees o g st).1 (sees o g st).2=st.view (sees o g st).1 (sees o g st).2 from e2]; exact hop
    rw [e3]
    simp only [hc,cond_true]
    rfl
  ·cases hg
 unfold o8 at h ⊢
 split at h
 ·rename_i hg; exact (go h).1
 ·rename_i d want hg
  split at h
  ·rename_i b hb'
   split at h
   ·rename_i hbw
    obtain ⟨h1,h2⟩:=go h
    rw [hk d (h2 d (by simp)),hb']
    simp only [hbw,if_true]
    exact h1
   ·rename_i hbw
    cases h
    rw [hk d (by simp [Cf,mP]),hb']
    simp only [if_neg hbw]
    rfl
  ·rename_i hb'
   cases h
   rw [hk d (by simp [Cf,mP]),hb']
   rfl
  ·cases h
 ·cases h
theorem gY {a b:List Nat} (h:oG a b=true):∀ x∈a,x∉b:=by
 intro x hx hb
 have:=List.all_eq_true.1 h x hx
 rw [any_beq.2 hb] at this
 cases this
structure Ind (j i:Rec):Prop where
 a:∀ x∈j.ws,x∉i.ks
 b:∀ x∈j.ws,x∉i.ws
 c:∀ x∈i.ws,x∉j.ks
 d:∀ x∈j.wb,x∉i.kb
 e:∀ x∈j.wb,x∉i.wb
 f:∀ x∈i.wb,x∉j.kb
 ts:∀ x∈j.ts,x∉i.ks
 tb:∀ x∈j.tb,x∉i.kb
 l:∀ x∈i.tc,x∉j.rv
 h:∀ x∈j.tc,x∉i.wr
 m:∀ x∈i.tc,x∉j.wr
 k:∀ x∈j.tc,x∉i.tc
 n:∀ x∈j.tc,x∉i.wb
 p:∀ x∈i.tc,x∉j.wb
 q:j.fz=true→i.tc= []
 r:i.fz=true→j.tc= []
theorem IU {j i:Rec} (h:indep j i=true):Ind j i:=by
 unfold indep at h
 simp only [Bool.and_eq_true,Bool.or_eq_true,List.isEmpty_iff,Bool.not_eq_true'] at h
 obtain ⟨⟨⟨⟨⟨⟨⟨⟨⟨⟨⟨⟨⟨⟨⟨h1,h2⟩,h3⟩,h4⟩,h5⟩,h6⟩,h7⟩,h8⟩,h9⟩,h10⟩,h11⟩,h12⟩,h13⟩,h14⟩,h15⟩,h16⟩:=h
 exact ⟨gY h1,gY h2,gY h3,gY h4,gY h5,gY h6,gY h7,gY h8,gY h9,gY h10,gY h11,gY h12,gY h13,gY h14,
  fun e=>h15.elim (fun h=>by rw [e] at h; cases h) id,fun e=>h16.elim (fun h=>by rw [e] at h; cases h) id⟩
theorem Ind.of {j i j' i':Rec} (h:Ind j i) (hj:uY j' j) (hi:RecSim i' i):Ind j' i':=by
 obtain ⟨⟨a1,a2,a3,a4,a5,a6,a7,a8⟩,a9,a10⟩:=hj
 obtain ⟨b1,b2,b3,b4,b5,b6,b7,b8⟩:=hi
 constructor
 all_goals (try simp only [a1,a2,a3,a4,a5,a6,a7,a8,b1,b2,b3,b4,b5,b6,b7,b8])
 ·exact h.a
 ·exact h.b
 ·exact h.c
 ·exact h.d
 ·exact h.e
 ·exact h.f
 ·exact fun x hx=>h.ts x (a9 x hx)
 ·exact fun x hx=>h.tb x (a10 x hx)
 ·exact h.l
 ·exact h.h
 ·exact h.m
 ·exact h.k
 ·exact h.n
 ·exact h.p
 ·exact h.q
 ·exact h.r
theorem xL {a b:List Nat}:meets a b=true↔∃ x∈a,x∈b:=by
 unfold meets
 rw [List.any_eq_true]
 constructor
 ·rintro ⟨x,hx,h⟩; exact ⟨x,hx,any_beq.1 h⟩
 ·rintro ⟨x,hx,h⟩; exact ⟨x,hx,any_beq.2 h⟩
theorem yw (tc:List Nat):∀ (l:List SV) (i k:Nat),k∈l9 tc i l↔i≤k∧meets (l.getD (k - i) .dead).dY tc=true
 | [],i,k=>by simp [l9,SV.dY,SV.sites,meets]
 |v::r,i,k=>by
  have ih:=yw tc r (i+1) k
  simp only [l9]
  by_cases hk:k=i
  ·subst hk
   simp only [Nat.sub_self,List.getD_cons_zero,Nat.le_refl,true_and]
   cases hm:meets v.dY tc with
   |true=>simp
   |false=>
    simp only [cond_false,ih]
    constructor
    ·intro h; omega
    ·intro h; cases h
  ·have e:k∈(bif meets v.dY tc then i::l9 tc (i+1) r else l9 tc (i+1) r)↔k∈l9 tc (i+1) r:=by
    cases meets v.dY tc<;>simp [hk]
   rw [e,ih]
   constructor
   ·rintro ⟨h1,h2⟩
    refine ⟨by omega,?_⟩
    rw [show k - i=(k - (i+1))+1 by omega,List.getD_cons_succ]; exact h2
   ·rintro ⟨h1,h2⟩
    refine ⟨by omega,?_⟩
    rw [show k - i=(k - (i+1))+1 by omega,List.getD_cons_succ] at h2; exact h2
theorem vX {tc:List Nat} {k:Nat}:k∈l9 tc 0 st.sl↔∃ x∈(st.slot k).dY,x∈tc:=by
 rw [yw]
 simp only [Nat.zero_le,true_and,Nat.sub_zero]
 exact xL
theorem Da:∀ {l:List (Nat×DV)} {s:Nat} {d:DV},eH l s=some d→(s,d)∈l
 | [],_,_,h=>by cases h
 |x::l,s,d,h=>by
  simp only [eH] at h
  cases hb:Nat.beq x.1 s with
  |true=>
   rw [hb] at h
   have:=beq_iff.1 hb
   cases h
   subst this
   simp
  |false=>rw [hb] at h; exact List.mem_cons_of_mem _ (Da h)
theorem CB:∀ {l:List (Nat×DV)} {s:Nat} {d:DV},(l.map (·.1)).Pairwise (· < ·)→(s,d)∈l→eH l s=some d
 | [],_,_,_,h=>by cases h
 |x::l,s,d,hs,h=>by
  simp only [List.map_cons,List.pairwise_cons] at hs
  simp only [eH]
  rcases List.mem_cons.1 h with rfl|h
  ·simp
  ·have:x.1<s:=hs.1 s (List.mem_map.2 ⟨_,h,rfl⟩)
   rw [eU.2 (by omega)]
   exact CB hs.2 h
theorem yO {tc:List Nat} {s:Nat} (hs:st.srt):s∈zh tc st.bx↔∃ x∈Ad (st.box s),x∈tc:=by
 unfold zh
 simp only [List.mem_map,List.mem_filter]
 constructor
 ·rintro ⟨⟨s',d⟩,⟨h1,h2⟩,rfl⟩
  have:st.box s'=some d:=CB hs h1
  rw [this]
  exact xL.1 h2
 ·rintro ⟨x,h1,h2⟩
  cases hb:st.box s with
  |none=>rw [hb] at h1; cases h1
  |some d=>
   rw [hb] at h1
   exact ⟨(s,d),⟨Da hb,xL.2 ⟨x,h1,h2⟩⟩,rfl⟩
theorem H9 {oj oi:Oper} {rj ri:Rec} {pj pi:List Pm} (hs:st.srt) (h1:o8 E D all oj st=some (rj,pj)) (h2:o8 E D all oi (aV pj st)=some (ri,pi)) (hi:Ind rj ri):
  ∃ ri' rj',o8 E D all oi st=some (ri',pi)∧RecSim ri' ri∧o8 E D all oj (aV pi st)=some (rj',pj)∧uY rj' rj∧aV pi (aV pj st)=aV pj (aV pi st):=by
 have e1:=Ce h1
 have e2:=Ce h2
 have jws:rj.ws=pj.flatMap Pm.ws:=by rw [e1]; rfl
 have jwb:rj.wb=pj.flatMap Pm.wb:=by rw [e1]; rfl
 have jwr:rj.wr=pj.flatMap Pm.wr:=by rw [e1]; rfl
 have jtc:rj.tc=pj.flatMap Pm.tc:=by rw [e1]; rfl
 have jfz:rj.fz=pj.any Pm.fz:=by rw [e1]; rfl
 have jrv:rj.rv=(rj.ks.flatMap fun i=>(st.slot i).dY)++rj.kb.flatMap fun s=>Ad (st.box s):=by rw [e1]; rfl
 have iws:ri.ws=pi.flatMap Pm.ws:=by rw [e2]; rfl
 have iwb:ri.wb=pi.flatMap Pm.wb:=by rw [e2]; rfl
 have iwr:ri.wr=pi.flatMap Pm.wr:=by rw [e2]; rfl
 have itc:ri.tc=pi.flatMap Pm.tc:=by rw [e2]; rfl
 have ifz:ri.fz=pi.any Pm.fz:=by rw [e2]; rfl
 have jts:∀ k x,x∈(st.slot k).dY→x∈rj.tc→k∈rj.ts:=by
  intro k x hx hc
  rw [e1]
  rw [jtc] at hc
  unfold mP
  simp only
  have hne:(pj.flatMap Pm.tc).isEmpty=false:=by
   cases hl:pj.flatMap Pm.tc with
   |nil=>rw [hl] at hc; cases hc
   |cons a l=>rfl
  rw [hne]
  exact vX.2 ⟨x,hx,hc⟩
 have jtb:∀ s x,x∈Ad (st.box s)→x∈rj.tc→s∈rj.tb:=by
  intro s x hx hc
  rw [e1]
  rw [jtc] at hc
  unfold mP
  simp only
  have hne:(pj.flatMap Pm.tc).isEmpty=false:=by
   cases hl:pj.flatMap Pm.tc with
   |nil=>rw [hl] at hc; cases hc
   |cons a l=>rfl
  rw [hne]
  exact (yO hs).2 ⟨x,hx,hc⟩
 have s1:=zF (st:=aV pj st) (st':=st) h2 (cu pj st).symm (sN pj hs) hs
  (fun k hk=>(rH (fun hw=>hi.a k (jws ▸ hw) hk) (fun x hx hT=>hi.ts k (jts k x hx (jtc ▸ hT)) hk)).symm)
  (fun s hk=>(uo (fun hw=>hi.d s (jwb ▸ hw) hk) (fun x hx hT=>hi.tb s (jtb s x hx (jtc ▸ hT)) hk)).symm)
 have sk:∀ k∈rj.ks,(aV pi st).slot k=st.slot k:=fun k hk=>rH (fun hw=>hi.c k (iws ▸ hw) hk) (fun x hx hT=>hi.l x (itc ▸ hT) (by rw [jrv]; exact List.mem_append_left _ (List.mem_flatMap.2 ⟨k,hk,hx⟩)))
 have sb:∀ s∈rj.kb,(aV pi st).box s=st.box s:=fun s hk=>uo (fun hw=>hi.f s (iwb ▸ hw) hk) (fun x hx hT=>hi.l x (itc ▸ hT) (by rw [jrv]; exact List.mem_append_right _ (List.mem_flatMap.2 ⟨s,hk,hx⟩)))
 have s2:=zF (st:=st) (st':=aV pi st) h1 (cu pi st) hs (sN pi hs) sk sb
 refine ⟨_,_,s1,?_,s2,?_,?_⟩
 ·have:=Cj (v:=(ri.ks,ri.kb)) (ps:=pi) (st:=aV pj st) (st':=st)
   (fun k hk=>(rH (fun hw=>hi.a k (jws ▸ hw) hk) (fun x hx hT=>hi.ts k (jts k x hx (jtc ▸ hT)) hk)).symm)
   (fun s hk=>(uo (fun hw=>hi.d s (jwb ▸ hw) hk) (fun x hx hT=>hi.tb s (jtb s x hx (jtc ▸ hT)) hk)).symm)
  rw [← e2] at this
  exact this
 ·have sim:=Cj (v:=(rj.ks,rj.kb)) (ps:=pj) (st:=st) (st':=aV pi st) sk sb
  rw [← e1] at sim
  refine ⟨sim,fun k hk=> ?_,fun s hk=> ?_⟩
  ·unfold mP at hk
   simp only at hk
   cases hem:(pj.flatMap Pm.tc).isEmpty with
   |true=>rw [hem] at hk; cases hk
   |false=>
    rw [hem] at hk
    obtain ⟨x,hx,hc⟩:=vX.1 (show k∈l9 (pj.flatMap Pm.tc) 0 (aV pi st).sl from hk)
    rcases yB hx with h3|h3
    ·exact jts k x h3 (jtc ▸ hc)
    ·exact absurd (iwr ▸ h3) (hi.h x (jtc ▸ hc))
  ·unfold mP at hk
   simp only at hk
   cases hem:(pj.flatMap Pm.tc).isEmpty with
   |true=>rw [hem] at hk; cases hk
   |false=>
    rw [hem] at hk
    obtain ⟨x,hx,hc⟩:=(yO (sN pi hs)).1 (show s∈zh (pj.flatMap Pm.tc) (aV pi st).bx from hk)
    rcases sP hx with h3|h3
    ·exact jtb s x h3 (jtc ▸ hc)
    ·exact absurd (iwr ▸ h3) (hi.h x (jtc ▸ hc))
 ·refine C8 (fun p hp q hq=> ?_) hs
  have m:∀ {f:Pm→List Nat} {x:Nat} {l:List Pm} {p:Pm},p∈l→x∈f p→x∈l.flatMap f:=fun hp hx=>List.mem_flatMap.2 ⟨_,hp,hx⟩
  constructor
  ·exact fun x hx hy=>hi.b x (jws ▸ m hp hx) (iws ▸ m hq hy)
  ·exact fun x hx hy=>hi.e x (jwb ▸ m hp hx) (iwb ▸ m hq hy)
  ·exact fun x hx hy=>hi.h x (jtc ▸ m hp hx) (iwr ▸ m hq hy)
  ·exact fun x hx hy=>hi.m x (itc ▸ m hq hx) (jwr ▸ m hp hy)
  ·exact fun x hx hy=>hi.n x (jtc ▸ m hp hx) (iwb ▸ m hq hy)
  ·exact fun x hx hy=>hi.p x (itc ▸ m hq hx) (jwb ▸ m hp hy)
  ·intro hf
   have:=hi.q (by rw [jfz]; exact List.any_eq_true.2 ⟨p,hp,hf⟩)
   rw [itc] at this
   exact List.flatMap_eq_nil_iff.1 this q hq
  ·intro hf
   have:=hi.r (by rw [ifz]; exact List.any_eq_true.2 ⟨q,hq,hf⟩)
   rw [jtc] at this
   exact List.flatMap_eq_nil_iff.1 this p hp
def Runs (E:Env) (D:aP) (all:List Oper) (rc:Nat→Rec):List Nat→St→St→Prop
 | [],st,st'=>st=st'
 |i::L,st,st'=>∃ o ps r0,all[i]?=some o∧o8 E D all o st=some (r0,ps)∧uY r0 (rc i)∧Runs E D all rc L (aV ps st) st'
theorem Runs.front {rc:Nat→Rec} {i:Nat} {ys:List Nat}:∀ {l:List Nat} {st st':St},st.srt→Runs E D all rc (l++i::ys) st st'→(∀ x∈l,Ind (rc x) (rc i))→
  ∃ o ps r0,all[i]?=some o∧o8 E D all o st=some (r0,ps)∧RecSim r0 (rc i)∧Runs E D all rc (l++ys) (aV ps st) st':=by
 intro l
 induction l with
 |nil=>rintro st st' _ ⟨o,ps,r0,h1,h2,h3,h4⟩ _; exact ⟨o,ps,r0,h1,h2,h3.toRecSim,h4⟩
 |cons x l ih=>
  rintro st st' hs ⟨o,ps,r0,h1,h2,h3,h4⟩ hi
  obtain ⟨oi,pi,ri,g1,g2,g3,g4⟩:=ih (sN ps hs) h4 fun y hy=>hi y (by simp [hy])
  obtain ⟨ri',rj',s1,s2,s3,s4,s5⟩:=H9 hs h2 g2 ((hi x (by simp)).of h3 g3)
  refine ⟨oi,pi,ri',g1,s1,s2.trans g3,o,ps,rj',h1,s3,s4.trans h3,?_⟩
  rw [← s5]; exact g4
end Go.Own
set_option linter.unusedVariables false
namespace Go.Own
variable {C:Cx} {P:Program} {E:Env} {w w' w2:World} {I I' I1 I2:Nat→Prop} {st sv st':St} {tm:Array Value} {tk tk':bg} {ds:List Deferred} {o:Oper} {e:Ef} {D:aP} {all:List Oper}
theorem AZ (dst:Option Nat) (e:Ef) (st:St):aV (nu dst e) st=e.run dst st:=by
 unfold nu Ef.run
 cases e.v with
 |none=>rfl
 |some v=>
  cases dst with
  |none=>rfl
  |some d=>simp only; rw [dn]; rfl
theorem Fg {ops:Array Oper} {rc:Rec} {ps:List Pm} (hE:eP C.P E) (hD:kJ C.P D) (h:Inv C st tm w I tk) (hd:∀ d,o.dst=some d→d<st.sl.length) (hf:o8 E D ops.toList o st=some (rc,ps))
  {K:Act→World→Prop} {Q:Exit→Act→World→Prop} (hK:∀ v w' I' tk',Inv C (aV ps st) (vg tm o.dst v) w' I' tk'→K ⟨vg tm o.dst v,ds⟩ w'):
  if Region.wanted o (yielded ops tm) then o.wp C.P ⟨tm,ds⟩ w K Q else K (Act.put ⟨tm,ds⟩ o.dst undef) w:=by
 have doK:∀ {g},goD E D o g st=some (rc,ps)→o.wp C.P ⟨tm,ds⟩ w K Q:=by
  intro g hg
  unfold goD at hg
  split at hg
  ·rename_i b he
   cases hc:b.res.1 with
   |false=>rw [hc] at hg; cases hg
   |true=>
    rw [hc] at hg
    cases hg
    rw [AZ] at hK
    exact Aa (ds:=ds) hE hD (KS _ _ st) h hd he hc hK
  ·cases hg
 have dead:ps=nu o.dst ⟨[],some .und⟩→K (Act.put ⟨tm,ds⟩ o.dst undef) w:=by
  rintro rfl
  rw [AZ] at hK
  rw [w9]
  cases hod:o.dst with
  |none=>
   have:=hK undef w I tk (by rw [hod]; exact h)
   rwa [hod] at this
  |some q=>
   have h2:=h.put (d:=q) (s:= .und) (v:=undef) (hd q hod) (bE.of1 (v:= .und) rfl)
   have:=hK undef w I _ (by rw [hod]; exact h2)
   rwa [hod] at this
 unfold o8 at hf
 split at hf
 ·rename_i hg
  rw [if_pos (BV hg)]
  exact doK hf
 ·rename_i d want hg
  split at hf
  ·rename_i b hb
   have hbl:d<st.sl.length:=vY hb (by simp)
   have hr:=h.slots d hbl
   rw [hb] at hr
   rw [yh hg (h.len ▸ hbl) (bT.1 hr)]
   split at hf
   ·rename_i e
    rw [if_pos (by simpa using e)]
    exact doK hf
   ·rename_i e
    rw [if_neg (by simpa using e)]
    simp only [Cf,Option.some.injEq,Prod.mk.injEq] at hf
    exact dead hf.2.symm
  ·rename_i hb
   have hbl:d<st.sl.length:=vY hb (by simp)
   have hr:=h.slots d hbl
   rw [hb] at hr
   rw [if_neg (by rw [zm hg (h.len ▸ hbl) hr]; decide)]
   simp only [Cf,Option.some.injEq,Prod.mk.injEq] at hf
   exact dead hf.2.symm
  ·cases hf
 ·cases hf
def idx (n:Nat):Nat→List Nat
 |0=> []
 |m+1=>n::idx (n+1) m
theorem Bd {R:Type} {r:R} {k:St→Option R} {ah:List Nat}:∀ (os:List Oper) (n:Nat) {acc:List (Nat×Rec)} {st:St},(∀ j o,os[j]?=some o→all[n+j]?=some o)→
  Kv E D all ah (numbered n os) acc st k=some r→
  ∃ (rc:Nat→Rec) (st':St),Runs E D all rc (idx n os.length) st st'∧k st'=some r∧
   (∀ p∈acc,∀ i∈idx n os.length,(ah.getD i 0).testBit p.1=true∨indep p.2 (rc i)=true)∧
   (∀ j∈idx n os.length,∀ i∈idx n os.length,j<i→(ah.getD i 0).testBit j=true∨indep (rc j) (rc i)=true):=by
 intro os
 induction os with
 |nil=>intro n acc st _ h; exact ⟨fun _=>default,st,rfl,h,(fun p _ i hi=>by cases hi),fun j hj=>by cases hj⟩
 |cons o os ih=>
  intro n acc st hall h
  simp only [numbered,Kv] at h
  obtain ⟨r0,ps,h1,h2⟩:=GN h
  cases hc:acc.all (fun p=>(ah.getD n 0).testBit p.1||indep p.2 r0) with
  |false=>rw [hc] at h2; cases h2
  |true=>
   simp only [hc,cond_true] at h2
   obtain ⟨rc,st',h3,h4,h5,h6⟩:=ih (n+1) (fun j o' hj=>by have:=hall (j+1) o' (by simpa using hj); rwa [show n+(j+1)=n+1+j by omega] at this) h2
   have mem:∀ (m:Nat) {a x:Nat},x∈idx a m→a≤x:=by
    intro m
    induction m with
    |zero=>intro a x hx; cases hx
    |succ m ih=>
     intro a x hx
     rcases List.mem_cons.1 hx with rfl|hx
     ·exact Nat.le_refl _
     ·have:=ih hx; omega
   let rc':Nat→Rec:=fun i=>if i=n then r0 else rc i
   have hrc:∀ i∈idx (n+1) os.length,rc' i=rc i:=fun i hi=>by
    have:=mem _ hi
    simp only [rc']; rw [if_neg (by omega)]
   have runs:∀ (L:List Nat) {s s':St},(∀ i∈L,rc' i=rc i)→Runs E D all rc L s s'→Runs E D all rc' L s s':=by
    intro L
    induction L with
    |nil=>intro s s' _ h; exact h
    |cons i L ih=>
     rintro s s' he ⟨o,ps,r1,q1,q2,q4,q3⟩
     exact ⟨o,ps,r1,q1,q2,by rw [he i (by simp)]; exact q4,ih (fun x hx=>he x (by simp [hx])) q3⟩
   refine ⟨rc',st',⟨o,ps,r0,by have:=hall 0 o rfl; simpa using this,h1,by simp only [rc',if_true]; exact uY.refl r0,runs _ hrc h3⟩,h4,fun p hp i hi=> ?_,fun j hj i hi hji=> ?_⟩
   ·rcases List.mem_cons.1 hi with rfl|hi
    ·have:=List.all_eq_true.1 hc p hp
     simpa [rc'] using this
    ·rw [hrc i hi]; exact h5 p (List.mem_cons_of_mem _ hp) i hi
   ·rcases List.mem_cons.1 hi with rfl|hi
    ·rcases List.mem_cons.1 hj with rfl|hj
     ·omega
     ·have:=mem _ hj; omega
    ·rw [hrc i hi]
     rcases List.mem_cons.1 hj with rfl|hj
     ·have:=h5 (j,r0) (by simp) i hi
      simpa [rc'] using this
     ·rw [hrc j hj]; exact h6 j hj i hi hji
theorem Jv (ops:List Oper):∀ (i:Nat),(uf ops)[i]?=(ops[i]?).map fun o=>o.after.toList.foldl (fun s e=>bif Region.binds .any e then s||| 2^e.on||| ((uf ops).take i).getD e.on 0 else s) 0:=by
 have key:∀ (l:List Oper) (acc:List Nat),let F:=l.foldl (fun acc o=>acc++ [o.after.toList.foldl (fun s e=>bif Region.binds .any e then s||| 2^e.on||| acc.getD e.on 0 else s) 0]) acc
   F.take acc.length=acc∧∀ i,F[acc.length+i]?=(l[i]?).map fun o=>o.after.toList.foldl (fun s e=>bif Region.binds .any e then s||| 2^e.on||| (F.take (acc.length+i)).getD e.on 0 else s) 0:=by
  intro l
  induction l with
  |nil=>intro acc; simp
  |cons o l ih=>
   intro acc
   simp only [List.foldl_cons]
   obtain ⟨h1,h2⟩:=ih (acc++ [o.after.toList.foldl (fun s e=>bif Region.binds .any e then s||| 2^e.on||| acc.getD e.on 0 else s) 0])
   generalize hF:l.foldl (fun acc o=>acc++ [o.after.toList.foldl (fun s e=>bif Region.binds .any e then s||| 2^e.on||| acc.getD e.on 0 else s) 0]) (acc++ [o.after.toList.foldl (fun s e=>bif Region.binds .any e then s||| 2^e.on||| acc.getD e.on 0 else s) 0])=F at*
   simp only [List.length_append,List.length_cons,List.length_nil,Nat.zero_add] at h1 h2
   have ht:F.take acc.length=acc:=by
    have:=congrArg (List.take acc.length) h1
    rw [List.take_take,Nat.min_eq_left (by omega)] at this
    rw [this]; simp
   refine ⟨ht,fun i=> ?_⟩
   cases i with
   |zero=>
    have h3:F[acc.length]?=(F.take (acc.length+1))[acc.length]?:=by rw [List.getElem?_take]; simp
    simp only [Nat.add_zero]
    rw [h3,h1,ht]; simp
   |succ i=>
    have:=h2 i
    rw [show acc.length+(i+1)=acc.length+1+i by omega,this]; rfl
 intro i
 have:=(key ops []).2 i
 simpa [uf] using this
theorem testBit_fold (g:Edge→Nat) (x:Nat):∀ (l:List Edge) (s:Nat),(l.foldl (fun s e=>bif Region.binds .any e then s||| 2^e.on||| g e else s) s).testBit x=true→s.testBit x=true∨∃ e∈l,Region.binds .any e=true∧(e.on=x∨(g e).testBit x=true):=by
 intro l
 induction l with
 |nil=>intro s h; exact .inl h
 |cons e l ih=>
  intro s h
  simp only [List.foldl_cons] at h
  rcases ih _ h with h|⟨e',h1,h2⟩
  ·cases hb:Region.binds .any e with
   |false=>simp only [hb,cond_false] at h; exact .inl h
   |true=>
    simp only [hb,cond_true,Nat.testBit_or,Bool.or_eq_true,Nat.testBit_two_pow,decide_eq_true_eq] at h
    rcases h with (h|h)|h
    ·exact .inl h
    ·exact .inr ⟨e,by simp,hb,.inl h⟩
    ·exact .inr ⟨e,by simp,hb,.inr h⟩
  ·exact .inr ⟨e',by simp [h1],h2⟩
theorem Jw {ops:List Oper} {i x:Nat} (h:((uf ops).getD i 0).testBit x=true):∃ o,ops[i]?=some o∧∃ e∈o.after.toList,Region.binds .any e=true∧(e.on=x∨(e.on<i∧((uf ops).getD e.on 0).testBit x=true)):=by
 rw [List.getD_eq_getElem?_getD,Jv] at h
 cases ho:ops[i]? with
 |none=>rw [ho] at h; simp at h
 |some o=>
  rw [ho] at h
  simp only [Option.map_some,Option.getD_some] at h
  rcases testBit_fold _ x _ _ h with h|⟨e,h1,h2,h3⟩
  ·simp at h
  ·refine ⟨o,rfl,e,h1,h2,h3.imp id fun h4=> ?_⟩
   rw [List.getD_eq_getElem?_getD,List.getElem?_take] at h4
   split at h4
   ·rename_i hlt; exact ⟨hlt,by rw [List.getD_eq_getElem?_getD]; exact h4⟩
   ·simp at h4
theorem EA {ops:Array Oper} {listed:Array Bool} (hdown:∀ (i:Nat) (o:Oper),ops[i]?=some o→listed.getD i false=true→∀ e∈o.after.toList,Region.binds .any e=true→listed.getD e.on false=true):
  ∀ (n i x:Nat),i<n→(∀ (o:Oper),ops[i]?=some o→∀ e∈o.after.toList,Region.binds .any e=true→listed.getD e.on false=true)→((uf ops.toList).getD i 0).testBit x=true→listed.getD x false=true:=by
 intro n
 induction n with
 |zero=>intro i x hi; omega
 |succ n ih=>
  intro i x hi h hb
  obtain ⟨o,ho,e,h1,h2,h3⟩:=Jw hb
  have ho':ops[i]?=some o:=by simpa using ho
  have hl:=h o ho' e h1 h2
  rcases h3 with rfl|⟨h3,h4⟩
  ·exact hl
  ·exact ih e.on x (by omega) (fun o' ho2=>hdown e.on o' ho2 hl) h4
theorem mem_ready {ops:Array Oper} {listed:Array Bool} {i:Nat} (h:i∈Region.ready .any ops listed):i<ops.size∧listed.getD i true=false∧∀ (o:Oper),ops[i]?=some o→∀ e∈o.after.toList,Region.binds .any e=true→listed.getD e.on false=true:=by
 unfold Region.ready at h
 obtain ⟨h1,h2⟩:=List.mem_filter.1 h
 have hi:i<ops.size:=by simpa using h1
 simp only [Bool.and_eq_true,Bool.not_eq_true'] at h2
 refine ⟨hi,h2.1,fun o ho e he hb=> ?_⟩
 have h3:=h2.2
 rw [ho] at h3
 simp only [Option.map_some,Option.getD_some] at h3
 rw [Array.all_eq_true'] at h3
 have:=h3 e (by simpa using he)
 simpa [hb] using this
theorem M7 {ops:Array Oper} {listed:Array Bool} {i:Nat} {o:Oper} (ho:ops[i]?=some o) (hl:listed.getD i true=false) (h:∀ e∈o.after.toList,Region.binds .any e=true→listed.getD e.on false=true):i∈Region.ready .any ops listed:=by
 have hi:i<ops.size:=by
  rcases Nat.lt_or_ge i ops.size with h1|h1
  ·exact h1
  ·rw [Array.getElem?_eq_none h1] at ho; cases ho
 unfold Region.ready
 refine List.mem_filter.2 ⟨by simpa using hi,?_⟩
 simp only [Bool.and_eq_true,Bool.not_eq_true']
 refine ⟨hl,?_⟩
 rw [ho]
 simp only [Option.map_some,Option.getD_some]
 rw [Array.all_eq_true']
 intro e he
 cases hb:Region.binds .any e
 ·rfl
 ·simpa using h e (by simpa using he) hb
structure Left (ops:Array Oper) (listed:Array Bool) (R:List Nat):Prop where
 size:listed.size=ops.size
 mem:∀ i,i∈R↔i<ops.size∧listed.getD i true=false
 sorted:R.Pairwise (· < ·)
 down:∀ (i:Nat) (o:Oper),ops[i]?=some o→listed.getD i false=true→∀ e∈o.after.toList,Region.binds .any e=true→listed.getD e.on false=true
theorem Bc {ops:Array Oper} {rc:Nat→Rec} {stE:St} {Q:Exit→Act→World→Prop} {n:Nat} (hE:eP C.P E) (hD:kJ C.P D) (hdst:∀ o∈ops.toList,∀ d,o.dst=some d→d<n)
  (hback:∀ (i:Nat) (o:Oper),ops[i]?=some o→∀ e∈o.after.toList,Region.binds .any e=true→e.on<i)
  (hind:∀ i j,i<ops.size→j<i→((uf ops.toList).getD i 0).testBit j=true∨indep (rc j) (rc i)=true)
  (hQ:∀ tm w I tk,stE.sl.length=n→Inv C stE tm w I tk→Q .normal ⟨tm,ds⟩ w):
  ∀ (fuel:Nat) {R:List Nat} {listed:Array Bool} {st:St} {tm:Array Value} {w:World} {I:Nat→Prop} {tk:bg},R.length≤fuel→Left ops listed R→st.sl.length=n→Inv C st tm w I tk→Runs E D ops.toList rc R st stE→
   wpAny C.P .any ops Q fuel listed ⟨tm,ds⟩ w:=by
 intro fuel
 induction fuel with
 |zero=>
  intro R listed st tm w I tk hl hleft hn h hr
  have hR:R= []:=List.length_eq_zero_iff.1 (by omega)
  subst hR
  refine ⟨?_,?_⟩
  ·apply List.eq_nil_iff_forall_not_mem.2
   intro i hi
   obtain ⟨h1,h2,_⟩:=mem_ready hi
   exact absurd ((hleft.mem i).2 ⟨h1,h2⟩) (by simp)
  ·have e:st=stE:=hr
   subst e
   exact hQ tm w I tk hn h
 |succ fuel ih=>
  intro R listed st tm w I tk hl hleft hn h hr
  refine ⟨fun hnil=> ?_,fun i hi=> ?_⟩
  ·
   cases R with
   |nil=>
    have e:st=stE:=hr
    subst e
    exact hQ tm w I tk hn h
   |cons i R=>
    exfalso
    obtain ⟨o,ps,_,ho,_⟩:=hr
    have ho':ops[i]?=some o:=by simpa using ho
    obtain ⟨h1,h2⟩:=(hleft.mem i).1 (by simp)
    have:i∈Region.ready .any ops listed:=M7 ho' h2 fun e he hb=>by
     have hlt:=hback i o ho' e he hb
     have hsz:e.on<listed.size:=by rw [hleft.size]; omega
     cases hc:listed.getD e.on false with
     |true=>rfl
     |false=>
      exfalso
      have:e.on∈i::R:=(hleft.mem e.on).2 ⟨by omega,by simpa [Array.getD,hsz] using hc⟩
      rcases List.mem_cons.1 this with h3|h3
      ·omega
      ·have:=List.rel_of_pairwise_cons hleft.sorted h3; omega
    rw [hnil] at this; cases this
  ·obtain ⟨h1,h2,h3⟩:=mem_ready hi
   have hiR:i∈R:=(hleft.mem i).2 ⟨h1,h2⟩
   obtain ⟨l,ys,rfl⟩:=List.append_of_mem hiR
   have hlt:∀ x∈l,x<i:=fun x hx=>by
    have:=List.pairwise_append.1 hleft.sorted
    exact this.2.2 x hx i (by simp)
   have hfront:=hr.front h.srt (fun x hx=>by
    refine IU ?_
    rcases hind i x h1 (hlt x hx) with hb|hb
    ·exfalso
     have:=EA hleft.down (i+1) i x (by omega) h3 hb
     have h4:=((hleft.mem x).1 (by simp [hx])).2
     have hxs:x<listed.size:=by rw [hleft.size]; exact ((hleft.mem x).1 (by simp [hx])).1
     simp [Array.getD,hxs] at this h4
     rw [this] at h4; cases h4
    ·exact hb)
   obtain ⟨o,ps,_,ho,hs,_,hrest⟩:=hfront
   have ho':ops[i]?=some o:=by simpa using ho
   have hom:o∈ops.toList:=List.mem_of_getElem? ho
   unfold wpOp
   rw [ho']
   simp only
   have hnext:Left ops (listed.setIfInBounds i true) (l++ys):=by
    have hnd:i∉l++ys:=by
     intro hc
     have hp:=List.pairwise_append.1 hleft.sorted
     rcases List.mem_append.1 hc with hc|hc
     ·have:=hlt i hc; omega
     ·have:=List.rel_of_pairwise_cons hp.2.1 hc; omega
    have gd:∀ (x:Nat) (b:Bool),(listed.setIfInBounds i true).getD x b=if x=i then (if i<listed.size then true else b) else listed.getD x b:=by
     intro x b
     by_cases hxi:x=i
     ·subst hxi
      by_cases hx:x<listed.size<;>simp [Array.getD,hx]
     ·rw [if_neg hxi]
      have hne:i≠x:=fun e=>hxi e.symm
      simp [Array.getD_eq_getD_getElem?,Array.getElem?_setIfInBounds_ne hne]
    refine ⟨by simpa using hleft.size,fun x=> ?_,?_,?_⟩
    ·have hm:=hleft.mem x
     rw [gd]
     by_cases hxi:x=i
     ·subst hxi
      rw [if_pos rfl,if_pos (by rw [hleft.size]; exact h1)]
      constructor
      ·intro hc; exact absurd hc hnd
      ·intro hc; cases hc.2
     ·rw [if_neg hxi,← hm]
      simp [hxi]
    ·have hp:=List.pairwise_append.1 hleft.sorted
     refine List.pairwise_append.2 ⟨hp.1,(List.pairwise_cons.1 hp.2.1).2,fun a ha b hb=>hp.2.2 a ha b (by simp [hb])⟩
    ·intro x q hq hx e he hb
     rw [gd] at hx ⊢
     have hsz:i<listed.size:=by rw [hleft.size]; exact h1
     by_cases hei:e.on=i
     ·rw [if_pos hei,if_pos hsz]
     ·rw [if_neg hei]
      by_cases hxi:x=i
      ·subst hxi; exact h3 q hq e he hb
      ·rw [if_neg hxi] at hx; exact hleft.down x q hq hx e he hb
   have:=Fg (ds:=ds) (o:=o) (Q:=Q) (K:=wpAny C.P .any ops Q fuel (listed.setIfInBounds i true)) hE hD h (fun d hd=>by rw [hn]; exact hdst o hom d hd) hs (fun v w' I' tk' hi=>
    ih (by simp at hl ⊢; omega) hnext (by rw [cu]; exact hn) hi hrest)
   split
   ·rename_i hw; rw [if_pos hw] at this; exact .inl this
   ·rename_i hw; rw [if_neg hw] at this; exact this
theorem rW:∀ (m:Nat) {a x:Nat},x∈idx a m↔a≤x∧x<a+m:=by
 intro m
 induction m with
 |zero=>intro a x; simp only [idx,List.not_mem_nil,false_iff]; omega
 |succ m ih=>
  intro a x
  simp only [idx,List.mem_cons,ih]
  omega
theorem AP:∀ (m a:Nat),(idx a m).Pairwise (· < ·):=by
 intro m
 induction m with
 |zero=>intro a; exact List.Pairwise.nil
 |succ m ih=>intro a; exact List.pairwise_cons.2 ⟨fun x hx=>by have:=(rW m).1 hx; omega,ih _⟩
theorem AQ:∀ (m a:Nat),(idx a m).length=m:=by
 intro m
 induction m with
 |zero=>intro a; rfl
 |succ m ih=>intro a; simp [idx,ih]
theorem wE:∀ (l:List Oper) (n i:Nat),(numbered n l)[i]?=(l[i]?).map fun o=>(n+i,o):=by
 intro l
 induction l with
 |nil=>intro n i; simp [numbered]
 |cons o l ih=>
  intro n i
  cases i with
  |zero=>simp [numbered]
  |succ i=>simp only [numbered,List.getElem?_cons_succ,ih]; rw [show n+1+i=n+(i+1) by omega]
theorem BL {R:Type} {r:R} {id:Nat} {ops:Array Oper} {k:St→Option R} {Q:Exit→Act→World→Prop} {n:Nat} (hE:eP C.P E) (hD:kJ C.P D) (hdst:∀ o∈ops.toList,∀ d,o.dst=some d→d<n)
  (hk:∀ st tm w I tk,k st=some r→st.sl.length=n→Inv C st tm w I tk→Q .normal ⟨tm,ds⟩ w) (h:Inv C st tm w I tk) (hn:st.sl.length=n) (hf:wB E D ops.toList st k=some r):
  (Code.region id ops true).wp C.P Q ⟨tm,ds⟩ w:=by
 unfold wB at hf
 cases hb:OM (numbered 0 ops.toList) with
 |false=>simp [hb] at hf
 |true=>
  simp only [hb,cond_true] at hf
  obtain ⟨rc,stE,h1,h2,_,h4⟩:=Bd ops.toList 0 (fun j o hj=>by simpa using hj) hf
  refine wp_region_any hE.mixed ?_
  have hg:=h.grow (w':= {w with drawn:=w.drawn+1}) (j5.drew w)
  refine Bc (ds:=ds) (n:=n) hE hD hdst ?_ ?_ (fun tm w I tk hl hi=>hk stE tm w I tk h2 hl hi) ops.size ?_ ?_ hn hg h1
  ·intro i o ho e he hbe
   have:=List.all_eq_true.1 hb (i,o) (List.mem_of_getElem? (i:=i) (by rw [wE]; simp [ho]))
   have h5:=List.all_eq_true.1 this e he
   simp only [hbe,Bool.not_true,Bool.false_or] at h5
   exact Nat.le_of_ble_eq_true h5
  ·intro i j hi hji
   exact h4 j ((rW _).2 ⟨by omega,by simp; omega⟩) i ((rW _).2 ⟨by omega,by simp; omega⟩) hji
  ·rw [AQ]; simp
  ·refine ⟨by simp,fun i=> ?_,AP _ _,fun i o ho hl=> ?_⟩
   ·rw [rW]
    constructor
    ·intro hi; have h6:i<ops.size:=by simpa using hi.2
     exact ⟨h6,by simp [Array.getD,h6]⟩
    ·intro hi; exact ⟨by omega,by simpa using hi.1⟩
   ·exfalso
    simp only [Array.getD,Array.size_replicate] at hl
    split at hl
    ·simp at hl
    ·cases hl
end Go.Own
set_option linter.unusedVariables false
namespace Go.Own
variable {C:Cx} {P:Program} {E:Env} {w w' w2:World} {I I' I1 I2:Nat→Prop} {st sv st':St} {tm:Array Value} {tk tk':bg} {ds:List Deferred} {o:Oper} {R:Type}
def Rt (n:Nat) (o:Oper):Bool:=match o.dst with|some d=>decide (d<n)|none=>true
def lC (n:Nat):Code→Bool
 | .region _ ops _=>ops.toList.all (Rt n)
 | .seq a b=>lC n a&&lC n b
 | .cond _ a b=>lC n a&&lC n b
 | .block _ a=>lC n a
 | .loop a=>lC n a
 | .scope a=>lC n a
 | .rangeFunc .. =>false
 |_=>true
def Ex.out:Ex→Exit
 | .normal=> .normal
 | .exit id=> .exit id
 | .ret=> .ret
def KL {R:Type} (C:Cx) (ds:List Deferred) (n:Nat) (r:R) (k:Ex→St→Option R) (Q:Exit→Act→World→Prop):Prop:=
 ∀ ex st tm w I tk,k ex st=some r→st.sl.length=n→Inv C st tm w I tk→Q ex.out ⟨tm,ds⟩ w
def fE:Code→List Code
 | .seq a b=>fE a++fE b
 | .cond _ a b=>fE a++fE b
 | .block _ a=>fE a
 | .loop a=>a::fE a
 | .scope a=>fE a
 |_=> []
def xg {R:Type} (r:R) (C:Cx) (ds:List Deferred) (n:Nat) (loop:Dq R) (body:Code):Prop:=
 ∀ {j:Nat} {st:St} {tm:Array Value} {w:World} {I:Nat→Prop} {tk:bg} {k:Ex→St→Option R} {Q:Exit→Act→World→Prop},lC n body=true→loop j body st k=some r→st.sl.length=n→
  Inv C st tm w I tk→KL C ds n r k Q→(Code.loop body).wp C.P Q ⟨tm,ds⟩ w
theorem tO {D:aP} {loop:Dq R} {r:R} {n:Nat} (hE:eP C.P E) (hD:kJ C.P D):∀ (c:Code) {st:St} {tm:Array Value} {w:World} {I:Nat→Prop} {tk:bg} {k:Ex→St→Option R} {Q:Exit→Act→World→Prop},
  (∀ body∈fE c,xg r C ds n loop body)→lC n c=true→d9 E D loop c st k=some r→st.sl.length=n→Inv C st tm w I tk→KL C ds n r k Q→c.wp C.P Q ⟨tm,ds⟩ w:=by
 intro c
 induction c with
 |skip=>intro st tm w I tk k Q _ _ hf hn h hk; exact wp_skip (hk .normal st tm w I tk hf hn h)
 |label l=>intro st tm w I tk k Q _ _ hf hn h hk; exact wp_label (hk .normal st tm w I tk hf hn h)
 |exit id=>intro st tm w I tk k Q _ _ hf hn h hk; exact wp_exit (hk (.exit id) st tm w I tk hf hn h)
 |ret=>intro st tm w I tk k Q _ _ hf hn h hk; exact wp_ret (hk .ret st tm w I tk hf hn h)
 |goto l=>intro st tm w I tk k Q _ _ hf; cases hf
 |refuse why=>intro st tm w I tk k Q _ _ hf; cases hf
 |rangeFunc f ps a b=>intro st tm w I tk k Q _ hd; cases hd
 |region id ops drawn=>
  intro st tm w I tk k Q _ hd hf hn h hk
  have hdst:∀ o∈ops.toList,∀ d,o.dst=some d→d<n:=by
   intro o ho d hod
   have:=List.all_eq_true.1 hd o ho
   simpa [Rt,hod] using this
  cases drawn with
  |true=>
   simp only [d9,cond_true] at hf
   exact BL (k:=k .normal) hE hD hdst (fun st tm w I tk e1 e2 e3=>hk .normal st tm w I tk e1 e2 e3) h hn hf
  |false=>
   simp only [d9,cond_false] at hf
   exact wp_region_list (Iq hE hD (k:=k .normal) (Q:=Q) (fun st tm w I tk e1 e2 e3=>hk .normal st tm w I tk e1 e2 e3) ops.toList hdst h hn hf)
 |seq a b iha ihb=>
  intro st tm w I tk k Q hL hd hf hn h hk
  simp only [lC,Bool.and_eq_true] at hd
  simp only [d9] at hf
  refine wp_seq (iha (fun x hx=>hL x (by simp [fE,hx])) hd.1 hf hn h ?_)
  intro ex st1 tm1 w1 I1 tk1 e1 e2 e3
  cases ex with
  |normal=>exact ihb (fun x hx=>hL x (by simp [fE,hx])) hd.2 e1 e2 e3 hk
  |exit id=>exact hk (.exit id) _ _ _ _ _ e1 e2 e3
  |ret=>exact hk .ret _ _ _ _ _ e1 e2 e3
 |cond c a b iha ihb=>
  intro st tm w I tk k Q hL hd hf hn h hk
  simp only [lC,Bool.and_eq_true] at hd
  simp only [d9] at hf
  have hc:=dO (ds:=ds) (View.refl st) h c
  split at hf
  ·rename_i t e
   rw [e] at hc
   refine wp_cond (t:=t) (bT.1 hc) ?_
   cases t with
   |true=>exact iha (fun x hx=>hL x (by simp [fE,hx])) hd.1 hf hn h hk
   |false=>exact ihb (fun x hx=>hL x (by simp [fE,hx])) hd.2 hf hn h hk
  ·cases hf
 |block id a iha=>
  intro st tm w I tk k Q hL hd hf hn h hk
  simp only [d9] at hf
  refine wp_block (iha hL hd hf hn h ?_)
  intro ex st1 tm1 w1 I1 tk1 e1 e2 e3
  cases ex with
  |normal=>exact hk .normal _ _ _ _ _ e1 e2 e3
  |exit i=>
   show (if i=id then Q .normal ⟨tm1,ds⟩ w1 else Q (.exit i) ⟨tm1,ds⟩ w1)
   cases hi:i== id with
   |true=>
    simp only [hi,cond_true] at e1
    rw [if_pos (by simpa using hi)]
    exact hk .normal _ _ _ _ _ e1 e2 e3
   |false=>
    simp only [hi,cond_false] at e1
    rw [if_neg (by simpa using hi)]
    exact hk (.exit i) _ _ _ _ _ e1 e2 e3
  |ret=>exact hk .ret _ _ _ _ _ e1 e2 e3
 |loop a iha=>
  intro st tm w I tk k Q hL hd hf hn h hk
  exact hL a (by simp [fE]) hd hf hn h hk
 |scope a iha=>
  intro st tm w I tk k Q hL hd hf hn h hk
  refine wp_scope_straight (iha hL hd hf hn h ?_)
  intro ex st1 tm1 w1 I1 tk1 e1 e2 e3
  cases ex with
  |normal=>exact hk .normal _ _ _ _ _ e1 e2 e3
  |exit i=>exact hk (.exit i) _ _ _ _ _ e1 e2 e3
  |ret=>exact hk .ret _ _ _ _ _ e1 e2 e3
theorem Ak {D:aP} {loop:Dq R} {r:R} {n:Nat} (hE:eP C.P E) (hD:kJ C.P D) {body:Code} (hL:∀ b∈fE body,xg r C ds n loop b):
  ∀ (q:Nat) {st:St} {tm:Array Value} {w:World} {I:Nat→Prop} {tk:bg} {k:Ex→St→Option R} {Q:Exit→Act→World→Prop},lC n body=true→J8 (fun st k=>d9 E D loop body st k) q st k=some r→st.sl.length=n→
   Inv C st tm w I tk→KL C ds n r k Q→(Code.loop body).wp C.P Q ⟨tm,ds⟩ w:=by
 intro q st tm w I tk k Q hd hf hn h hk
 refine wp_loop_rounds q ?_
 induction q generalizing st tm w I tk with
 |zero=>cases hf
 |succ q ihq=>
  rw [rounds_succ]
  refine tO hE hD body hL hd hf hn h ?_
  intro ex st1 tm1 w1 I1 tk1 e1 e2 e3
  cases ex with
  |normal=>exact ihq e1 e2 e3
  |exit i=>exact hk (.exit i) _ _ _ _ _ e1 e2 e3
  |ret=>exact hk .ret _ _ _ _ _ e1 e2 e3
end Go.Own
set_option linter.unusedVariables false
namespace Go.Own
variable {C:Cx} {P:Program} {E:Env} {w w' w2:World} {I I' I1 I2:Nat→Prop} {st sv st':St} {tm:Array Value} {tk tk':bg} {ds:List Deferred} {o:Oper} {R:Type}
theorem MQ (tm:Array Value) (i:Nat):tm.setIfInBounds i (tm.getD i undef)=tm:=by
 apply Array.ext'
 rw [Array.toList_setIfInBounds]
 apply List.ext_getElem?
 intro j
 rw [List.getElem?_set]
 split
 ·rename_i hij
  subst hij
  split
  ·rename_i h
   have h':i<tm.size:=by simpa using h
   simp [Array.getD,h']
  ·rename_i h
   rw [List.getElem?_eq_none (by omega)]
 ·rfl
theorem Inv.tell (h:Inv C st tm w I tk) {i:Nat} (hi:i<st.sl.length) {s:SV} (hs:bE w I tk s (tm.getD i undef)):Inv C {st with sl:=st.sl.set i s} tm w I tk:=by
 have:=h.put hi hs
 rwa [MQ] at this
theorem Dh (self:Nat):∀ {u t:Ty} {x:t.den} {st:St} {tk:bg} {cs:List Value},Inv C st tm w I tk→af w I tk t x cs→((coT self u t x).1.flatMap Pm.tc).Nodup→(∀ s∈(coT self u t x).1.flatMap Pm.tc,s∉self::mentions t)→
  ((coT self u t x).1.all fun p=>match p with| .kill s=>Nat.blt s 1000000| .ins _ ⟨.dyn t,_⟩=>t.plain|_=>false)=true→
  ∃ tk',Inv C (aV (coT self u t x).1 st) tm w I tk'∧af w I tk' (coT self u t x).2.1 (coT self u t x).2.2 cs∧(coT self u t x).2.1.frz=t.frz∧(t.bM=false→(coT self u t x).2.1.bM=false)∧
   (∀ r,r∉(coT self u t x).1.flatMap Pm.tc→tk' r=tk r)∧(∀ s∈mentions (coT self u t x).2.1,s∈self::mentions t∨s∈(coT self u t x).1.flatMap Pm.tc):=by
 intro u
 have same:∀ {t:Ty} {x:t.den} {st:St} {tk:bg} {cs:List Value},Inv C st tm w I tk→af w I tk t x cs→∃ tk',Inv C (aV [] st) tm w I tk'∧af w I tk' t x cs∧t.frz=t.frz∧(t.bM=false→t.bM=false)∧
   (∀ r,r∉([]:List Pm).flatMap Pm.tc→tk' r=tk r)∧(∀ s∈mentions t,s∈self::mentions t∨s∈([]:List Pm).flatMap Pm.tc):=
  fun h hc=>⟨_,h,hc,rfl,fun h=>h,fun _ _=>rfl,fun s hs=> .inl (List.mem_cons_of_mem _ hs)⟩
 induction u with
 |pair a b iha ihb=>
  intro t x st tk cs h hc hnd hdj hal
  cases t with
  |pair c d=>
   obtain ⟨c1,c2,rfl,h1,h2⟩:=hc
   simp only [coT,List.flatMap_append,List.all_append,Bool.and_eq_true] at hnd hdj hal ⊢
   obtain ⟨n1,n2,n3⟩:=List.nodup_append.1 hnd
   have d1:∀ s∈(coT self a c x.1).1.flatMap Pm.tc,s∉self::mentions c:=fun s hs hm=>hdj s (List.mem_append_left _ hs) (by
    rcases List.mem_cons.1 hm with rfl|hm
    ·exact List.mem_cons_self
    ·exact List.mem_cons_of_mem _ (List.mem_append_left _ hm))
   have d2:∀ s∈(coT self b d x.2).1.flatMap Pm.tc,s∉self::mentions d:=fun s hs hm=>hdj s (List.mem_append_right _ hs) (by
    rcases List.mem_cons.1 hm with rfl|hm
    ·exact List.mem_cons_self
    ·exact List.mem_cons_of_mem _ (List.mem_append_right _ hm))
   obtain ⟨tk1,i1,g1,f1,t1,e1,m1⟩:=iha h h1 n1 d1 hal.1
   have h2':af w I tk1 d x.2 c2:=h2.congr fun s hs=>e1 s fun hm=>hdj s (List.mem_append_left _ hm) (List.mem_cons_of_mem _ (List.mem_append_right _ hs))
   obtain ⟨tk2,i2,g2,f2,t2,e2,m2⟩:=ihb i1 h2' n2 d2 hal.2
   refine ⟨tk2,by rw [dn]; exact i2,⟨c1,c2,rfl,g1.congr fun s hs=>e2 s fun hm=> ?_,g2⟩,by simp only [Ty.frz,f1,f2],fun _=>rfl,fun r hr=> ?_,fun s hs=> ?_⟩
   ·rcases m1 s hs with h3|h3
    ·rcases List.mem_cons.1 h3 with rfl|h3
     ·exact hdj s (List.mem_append_right _ hm) List.mem_cons_self
     ·exact hdj s (List.mem_append_right _ hm) (List.mem_cons_of_mem _ (List.mem_append_left _ h3))
    ·exact n3 s h3 s hm rfl
   ·rw [List.mem_append,not_or] at hr
    rw [e2 r hr.2,e1 r hr.1]
   ·simp only [mentions,List.mem_append] at hs
    rcases hs with hs|hs
    ·rcases m1 s hs with h3|h3
     ·rcases List.mem_cons.1 h3 with rfl|h3
      ·exact .inl List.mem_cons_self
      ·exact .inl (List.mem_cons_of_mem _ (List.mem_append_left _ h3))
     ·exact .inr (List.mem_append_left _ h3)
    ·rcases m2 s hs with h3|h3
     ·rcases List.mem_cons.1 h3 with rfl|h3
      ·exact .inl List.mem_cons_self
      ·exact .inl (List.mem_cons_of_mem _ (List.mem_append_right _ h3))
     ·exact .inr (List.mem_append_right _ h3)
  |_=>exact same h hc
 |sl a=>
  intro t x st tk cs h hc hnd hdj hal
  cases t with
  |nsl t=>
   have hc':cs= [.slice none 0 0]:=hc
   subst hc'
   exact ⟨tk,h,⟨none,0,rfl,Nat.le_refl _,.inl rfl⟩,rfl,fun _=>rfl,fun _ _=>rfl,fun s hs=>by cases hs⟩
  |_=>exact same h hc
 |vw s a=>
  intro t x st tk cs h hc hnd hdj hal
  cases t with
  |nsl t=>
   have hc':cs= [.slice none 0 0]:=hc
   subst hc'
   simp only [coT,jL,List.all_cons,Bool.and_eq_true,List.all_nil,Bool.and_true] at hal
   have hlt:s<1000000:=Nat.le_of_ble_eq_true hal.1
   obtain ⟨tk',h1,⟨q,h2,h3,h4⟩,h5⟩:=h.IB (d:=s) (t:=t) (fun j=>by unfold site; omega) hal.2
   refine ⟨tk',h1,⟨q,h2,h3,by rw [h4]⟩,rfl,fun _=>rfl,fun r hr=>h5 r fun e=>hr (by simp [coT,jL,Pm.tc,e]),fun r hr=> .inr ?_⟩
   simp only [coT,mentions,List.mem_singleton] at hr
   subst hr
   simp [coT,jL,Pm.tc]
  |_=>exact same h hc
 |sf s a pa=>
  intro t x st tk cs h hc hnd hdj hal
  cases t with
  |slf=>
   have hc':cs= [.pointer none]:=hc
   subst hc'
   exact ⟨tk,h,.inl ⟨rfl,rfl⟩,rfl,fun _=>rfl,fun _ _=>rfl,fun r hr=> .inl (by simpa [coT,mentions] using hr)⟩
  |_=>exact same h hc
 |dyn u ih=>
  intro t x st tk cs h hc hnd hdj hal
  cases t<;>first|exact hc.elim|(cases u<;>exact same h hc)
 |_=>intro t x st tk cs h hc hnd hdj hal; exact same h hc
end Go.Own
