/- What is proved: the evaluator of the translated code, and that it is sound, part 5. Conditions: those that each theorem names. -/
import Derived.Test.YtnighkkdmgmcnaaGreatW4
set_option linter.unusedVariables false
set_option linter.unusedSimpArgs false
namespace Go.Own
variable {C:Cx} {w w':World} {I I':Nat→Prop} {st:St} {tm:Array Value} {tk tk':aU}
theorem Blk.cell {b:Nat} {e:TypeId} {cs:List Value} (h:Blk w b e cs) (o:Nat):w.cell? ⟨b,o,none⟩=cs[o]?:=by
 obtain ⟨c,fr,h1,h2,h3⟩:=h
 subst h2
 simp [World.cell?,h1]
theorem nM:∀ {pa:Path} {t:Ty} {x:t.den} {d:DV},t.plain=true→iI t x pa=some d→d.1.plain=true:=by
 intro pa
 induction pa with
 |nil=>
  intro t x d hp h
  have:(⟨t,x⟩:DV)=d:=by cases t<;>simpa [iI] using h
  subst this; exact hp
 |cons s pa ih=>
  intro t x d hp h
  cases t<;>cases s<;>simp only [iI,reduceCtorEq] at h<;>simp only [Ty.plain,Bool.and_eq_true,Bool.false_eq_true] at hp
  ·exact ih hp.1 h
  ·exact ih hp.2 h
  ·exact ih hp h
  ·exact ih (t:= .arr _ _) hp h
theorem yY {b o n:Nat} {e:TypeId} {cs:List Value} (h:Blk w b e cs):nZ w b o ((cs.drop o).take n):=by
 intro j v hj
 rw [h.cell]
 rw [dI] at hj
 split at hj
 ·exact hj
 ·cases hj
theorem J2 {o cap lo k:Nat} {t:Ty} {l:List t.den} {cs:List Value} (hl:o+cap*t.size≤cs.length) (hc:l.length≤cap) (hlo:lo+k≤l.length)
  (h:∀ i x,l[i]?=some x→∃ c,ai w I tk t x c∧∀ j v,c[j]?=some v→cs[o+i*t.size+j]?=some v):
  ai w I tk (.arr k t) ((l.drop lo).take k) ((cs.drop (o+lo*t.size)).take (k*t.size)):=by
 have hm:(lo+k)*t.size≤cap*t.size:=Nat.mul_le_mul_right _ (by omega)
 rw [Nat.add_mul] at hm
 refine ⟨by simp; omega,by simp; omega,fun i y hy=> ?_⟩
 rw [List.getElem?_take] at hy
 split at hy
 ·rename_i hi
  rw [List.getElem?_drop] at hy
  obtain ⟨c,hc1,hc2⟩:=h _ _ hy
  have h2:(i+1)*t.size≤k*t.size:=Nat.mul_le_mul_right _ hi
  rw [Nat.add_mul,Nat.one_mul] at h2
  have hcl:=hc1.length
  have e:(((cs.drop (o+lo*t.size)).take (k*t.size)).drop (i*t.size)).take t.size=c:=by
   apply gK; intro j
   rw [dI _ (i*t.size)]
   split
   ·rename_i hj
    rw [dI,if_pos (by omega)]
    have hj':c[j]?=some c[j]:=List.getElem?_eq_getElem (by omega)
    rw [hj',← hc2 j _ hj']; congr 1; rw [Nat.add_mul]; omega
   ·rename_i hj
    rw [List.getElem?_eq_none (by omega)]
  rw [e]; exact hc1
 ·cases hy
theorem En {q:Tk} {d x:DV} {pa:Path} {b off:Nat} {t:Ty} (hd:aI w I tk q d) (hok:d.mD=true) (hnp:d.1.fD=false) (hI:∀ b,I b→I' b) (hb:∀ b,q.blk=some b→I' b)
  (hg:iI d.1 d.2 pa=some x) (hx:x.1.plain=true) (hat:q.at pa=some (b,off,t)) (hin:q.pin pa):
  x.1=t∧ai w I' tk' (.ref x.1) (some x.2) [.pointer (some ⟨b,off,none⟩)]:=by
 have hqp:=hd.np hnp
 rw [Tk.Bp hqp] at hat
 rw [Tk.oL hqp] at hin
 obtain ⟨dt,dx⟩:=d
 have at':∃ o,q.blk=some b∧bG q.ty pa=some (o,t)∧off=q.off+o:=by
  unfold Tk.at1 at hat
  cases hq:q.blk with
  |none=>simp [hq] at hat
  |some b'=>
   cases hp:bG q.ty pa with
   |none=>simp [hq,hp] at hat
   |some p=>
    obtain ⟨o,t'⟩:=p
    simp only [hq,hp,Option.some.injEq,Prod.mk.injEq] at hat
    obtain ⟨rfl,rfl,rfl⟩:=hat
    exact ⟨o,rfl,rfl,rfl⟩
 obtain ⟨o,hq,hp,rfl⟩:=at'
 cases ht:dt.bL with
 |false=>
  obtain ⟨h1,h2,b',cs,h3,h4,h5⟩:=(aI.str ht).1 hd
  rw [hq] at h3; cases h3
  have hpl:dt.plain=true:=by unfold DV.mD at hok; cases dt<;>first|exact hok|cases ht
  have hfr:dt.frz=dt:=Ty.eZ hpl
  rw [h1] at hp hin
  obtain ⟨o',e1,e2,e3⟩:=kS q.len (u:=x.1) (y:=x.2) h5 hg hin
  rw [hp] at e1
  simp only [Option.some.injEq,Prod.mk.injEq] at e1
  obtain ⟨rfl,e1⟩:=e1
  rw [Ty.eZ hx] at e1
  refine ⟨e1.symm,hx,b,q.off+o,_,rfl,hb b hq,(e2.plain hx).mono hI (fun _ _=>rfl) (aU.le.refl _),?_⟩
  rw [h2,Nat.zero_add]
  exact yY h4
 |true=>
  cases dt<;>first|cases ht; done|skip
  case pool=>cases hnp
  ·rename_i t0
   obtain ⟨h1,_,h2,h3,h4,h5⟩:=hd
   have hp0:t0.plain=true:=hok
   simp only [Ty.frz,Ty.eZ hp0] at h1
   rw [h1] at hp hin
   cases pa with
   |nil=>
    simp only [iI,Option.some.injEq] at hg
    subst hg; cases hx
   |cons s pa=>
    cases s<;>simp only [iI,reduceCtorEq] at hg
    ·rename_i i
     simp only [pathIn] at hin
     simp only [bG] at hp
     obtain ⟨⟨o1,t1⟩,hp1,e⟩:=Option.map_eq_some_iff.1 hp
     simp only [Prod.mk.injEq] at e
     obtain ⟨rfl,rfl⟩:=e
     rcases h5 with ⟨h5,_⟩|⟨b',e1,e2,cs,e3,e4,e5⟩
     ·rw [hq] at h5; cases h5
     ·rw [hq] at e1; cases e1
      have hi:i<dx.2.length:=by omega
      have hxi:dx.2[i]?=some (List.getD dx.2 i t0.dflt):=by
       rw [List.getD_eq_getElem?_getD,List.getElem?_eq_getElem hi]; rfl
      obtain ⟨c,hc,hv⟩:=e5 i _ hxi
      have hfr:t0.frz=t0:=Ty.eZ hp0
      obtain ⟨o',f1,f2,f3⟩:=kS q.len (u:=x.1) (y:=x.2) hc hg (by rw [hfr]; exact hin.2)
      rw [hfr,hp1] at f1
      simp only [Option.some.injEq,Prod.mk.injEq] at f1
      obtain ⟨rfl,f1⟩:=f1
      rw [Ty.eZ hx] at f1
      refine ⟨f1.symm,hx,b,_,_,rfl,hb b hq,(f2.plain hx).mono hI (fun _ _=>rfl) (aU.le.refl _),?_⟩
      intro j v hj
      rw [e3.cell]
      rw [dI] at hj
      split at hj
      ·have:=hv _ _ hj
       rw [← this]; congr 1; omega
      ·cases hj
    ·rename_i lo k
     simp only [pathIn] at hin
     simp only [bG] at hp
     obtain ⟨⟨o1,t1⟩,hp1,e⟩:=Option.map_eq_some_iff.1 hp
     simp only [Prod.mk.injEq] at e
     obtain ⟨rfl,rfl⟩:=e
     rcases h5 with ⟨h5,_⟩|⟨b',e1,e2,cs,e3,e4,e5⟩
     ·rw [hq] at h5; cases h5
     ·rw [hq] at e1; cases e1
      have hc:=J2 (lo:=lo) (k:=k) e4 h3 (by omega) e5
      have hfr:(Ty.arr k t0).frz= .arr k t0:=Ty.eZ (by simpa [Ty.plain] using hp0)
      obtain ⟨o',f1,f2,f3⟩:=kS q.len (t:= .arr k t0) (u:=x.1) (y:=x.2) hc hg (by rw [hfr]; exact hin.2)
      rw [hfr,hp1] at f1
      simp only [Option.some.injEq,Prod.mk.injEq] at f1
      obtain ⟨rfl,f1⟩:=f1
      rw [Ty.eZ hx] at f1
      refine ⟨f1.symm,hx,b,_,_,rfl,hb b hq,(f2.plain hx).mono hI (fun _ _=>rfl) (aU.le.refl _),?_⟩
      intro j v hj
      rw [e3.cell]
      rw [dI] at hj
      split at hj
      ·rw [dI] at hj
       split at hj
       ·rw [← hj]; congr 1; omega
       ·cases hj
      ·cases hj
  ·simp only [DV.mD] at hok; cases hok
end Go.Own
namespace Go.Own
variable {C:Cx} {w w':World} {I I':Nat→Prop} {st:St} {tm:Array Value} {tk tk':aU}
theorem addr_add (b o j:Nat):(⟨b,o,none⟩:Addr).add j=⟨b,o+j,none⟩:=by unfold Addr.add; split<;>simp_all
theorem I8 {q:Tk} {d:DV} {x:(t:Ty)×List t.den} {t:Ty} (hd:aI w I tk q d) (hok:d.mD=true) (hI:∀ b,I b→I' b) (hb:∀ b,q.blk=some b→I' b)
  (hq:q.ty= .dyn t) (hx:kN d=some x):x.1=t∧x.1.plain=true∧ai w I' tk' (.sl x.1) x.2 [q.hdr]:=by
 obtain ⟨dt,dx⟩:=d
 cases dt<;>simp only [kN,reduceCtorEq] at hx
 ·obtain ⟨h1,_⟩:=(aI.str rfl).1 hd
  rw [hq] at h1; cases h1
 ·rename_i t0
  cases hx
  obtain ⟨h1,_,h2,h3,h4,h5⟩:=hd
  have hp:t0.plain=true:=hok
  simp only [Ty.frz,Ty.eZ hp] at h1
  rw [hq] at h1; cases h1
  refine ⟨rfl,hp,q.ad,q.cap,by unfold Tk.hdr; rw [h2],h3,?_⟩
  rcases h5 with ⟨_,h5⟩|⟨b,e1,e2,cs,e3,e4,e5⟩
  ·left
   have h0:dx.2.length=0:=by have:dx.2.length≤q.cap:=h3; omega
   exact List.length_eq_zero_iff.1 h0
  ·right
   refine ⟨hp,b,q.off,e2,hb b e1,fun i y hy=> ?_⟩
   obtain ⟨c,hc,hv⟩:=e5 i y hy
   refine ⟨c,(hc.plain hp).mono hI (fun _ _=>rfl) (aU.le.refl _),fun j v hj=> ?_⟩
   rw [e3.cell]
   exact hv j v hj
theorem rP {α:Type} (l:List α) (lo n i:Nat) (y:α) (h:((l.drop lo).take n)[i]?=some y):i<n∧l[lo+i]?=some y:=by
 rw [List.getElem?_take] at h
 split at h
 ·rename_i hi
  rw [List.getElem?_drop] at h
  exact ⟨hi,h⟩
 ·cases h
theorem N7 {q:Tk} {d:DV} {x:(t:Ty)×List t.den} {t:Ty} {pa:Path} {lo n:Nat} {v:Value} (hd:aI w I tk q d) (hok:d.mD=true) (hnp:d.1.fD=false) (hI:∀ b,I b→I' b) (hb:∀ b,q.blk=some b→I' b)
  (hv:ES q t pa lo n v) (hx:(iI d.1 d.2 pa).bind kN=some x):x.1=t∧x.1.plain=true∧ai w I' tk' (.sl x.1) ((x.2.drop lo).take n) [v]:=by
 obtain ⟨y,hg,hy⟩:=Option.bind_eq_some_iff.1 hx
 rcases hv with ⟨rfl,hq,hl,ad',rfl,ha,hn⟩|⟨b,off,m,hat,hin,hl,ad',rfl,ha⟩
 ·have:y=d:=by
   have:some d=some y:=by rw [← hg]; obtain ⟨dt,dx⟩:=d; cases dt<;>rfl
   exact (Option.some.inj this).symm
  subst this
  obtain ⟨e,hp,ad,cap,hc1,hc2,hc3⟩:=I8 (tk':=tk') hd hok hI hb hq hy
  obtain ⟨rfl,hlen,rfl⟩:ad=q.ad∧q.len=x.2.length∧cap=q.cap:=by
   simp only [Tk.hdr,List.cons.injEq,Value.slice.injEq,and_true] at hc1
   exact ⟨hc1.1.symm,hc1.2.1,hc1.2.2.symm⟩
  refine ⟨e,hp,ad',q.cap - lo,?_,?_,?_⟩
  ·have:((x.2.drop lo).take n).length=n:=by simp; omega
   rw [this]
  ·have:((x.2.drop lo).take n).length=n:=by simp; omega
   omega
  ·by_cases hn0:n=0
   ·left; rw [hn0,List.take_zero]
   ·rcases hc3 with hc3|⟨_,b,o,e1,e2,e3⟩
    ·rw [hc3] at hlen; simp at hlen; omega
    ·right
     refine ⟨hp,b,o+lo*x.1.size,?_,e2,fun i y hy=> ?_⟩
     ·rw [ha (by omega),e1,e]; simp [addr_add]
     ·obtain ⟨hi,hy⟩:=rP _ _ _ _ _ hy
      obtain ⟨c,f1,f2⟩:=e3 _ _ hy
      refine ⟨c,f1,?_⟩
      rw [Nat.add_assoc,← Nat.add_mul]; exact f2
 ·obtain ⟨yt,yx⟩:=y
  cases yt<;>simp only [kN,reduceCtorEq] at hy
  ·rename_i m0 t0
   cases hy
   have hpl:(Ty.arr m0 t0).plain=true:=by
    obtain ⟨dt,dx⟩:=d
    unfold DV.mD at hok
    cases dt<;>first|exact nM (d:=⟨.arr m0 t0,yx⟩) hok hg|(cases hnp; done)|skip
    cases pa with
    |nil=>simp only [iI,Option.some.injEq] at hg; cases hg
    |cons s pa=>
     cases s<;>simp only [iI,reduceCtorEq] at hg
     ·exact nM (d:=⟨.arr m0 t0,yx⟩) hok hg
     ·exact nM (t:= .arr _ _) (d:=⟨.arr m0 t0,yx⟩) hok hg
   obtain ⟨e,_,b',o',c,hc1,hc2,hc3,hc4⟩:=En (tk':=tk') (x:=⟨.arr m0 t0,yx⟩) hd hok hnp hI hb hg hpl hat hin
   simp only [Ty.arr.injEq] at e
   obtain ⟨rfl,rfl⟩:=e
   simp only [List.cons.injEq,Value.pointer.injEq,Option.some.injEq,Addr.mk.injEq,and_true] at hc1
   obtain ⟨rfl,rfl⟩:=hc1
   obtain ⟨f1,f2,f3⟩:=hc3
   have f1':yx.length=m0:=f1
   have hlen:((yx.drop lo).take n).length=n:=by simp; omega
   refine ⟨rfl,hpl,some ad',m0 - lo,by rw [hlen],by rw [hlen]; omega,?_⟩
   by_cases hn0:n=0
   ·left; rw [hn0,List.take_zero]
   ·right
    refine ⟨hpl,b,off+lo*t0.size,by rw [ha (by omega)],hc2,fun i y hy=> ?_⟩
    obtain ⟨hi,hy⟩:=rP _ _ _ _ _ hy
    refine ⟨_,f3 _ _ hy,fun j v hj=> ?_⟩
    rw [dI] at hj
    split at hj
    ·rw [show off+lo*t0.size+i*t0.size+j=off+((lo+i)*t0.size+j) by rw [Nat.add_mul]; omega]
     exact hc4 _ _ hj
    ·cases hj
  ·cases hy
   exfalso
   obtain ⟨dt,dx⟩:=d
   unfold DV.mD at hok
   have no:∀ {t:Ty} {x:t.den} {pa:Path} {u:Ty} {y:(Ty.dyn u).den},t.plain=true→iI t x pa=some ⟨.dyn u,y⟩→False:=fun hp hg=>by
    have:=nM hp hg; cases this
   cases dt<;>first|exact no hok hg|(cases hnp; done)|skip
   cases pa with
   |nil=>
    rw [Tk.Bp (hd.np hnp)] at hat
    unfold Tk.at1 at hat
    obtain ⟨h1,_⟩:=hd
    rw [h1] at hat
    cases hq:q.blk<;>simp [hq,bG] at hat
   |cons s pa=>
    cases s<;>simp only [iI,reduceCtorEq] at hg
    ·exact no hok hg
    ·exact no (t:= .arr _ _) hok hg
end Go.Own
namespace Go.Own
variable {C:Cx} {w w':World} {I I':Nat→Prop} {st:St} {tm:Array Value} {tk tk':aU}
theorem aA.one {t:Ty} {x:t.den} {v:Value} (ht:t.isAgg=false) (h:ai w I tk t x [v]):aA w I tk t x v:=by
 unfold aA; rw [if_neg (by rw [ht]; decide)]; exact h
theorem ai.fz {s:Nat} {q:Tk} {d:DV} (hq:tk s=some q) (hd:aI w I tk q d) (hok:d.mD=true) (hnp:d.1.fD=false) (hI:∀ b,I b→I' b) (hb:∀ b,q.blk=some b→I' b) (ht:∀ r,r≠s→tk' r=tk r):
  ∀ {t:Ty} {x:t.den} {cs:List Value},ai w I tk t x cs→ai w I' tk' (fU s d t x).1 (fU s d t x).2 cs∧(fU s d t x).1.frz=t.frz:=by
 intro t
 have same:∀ {t:Ty} {x:t.den} {cs:List Value},s∉mentions t→ai w I tk t x cs→ai w I' tk' t x cs:=fun hn h=>
  (h.mono hI (fun _ _=>rfl) (aU.le.refl _)).congr fun r hr=>ht r fun e=>hn (e ▸ hr)
 induction t with
 |int k=>intro x cs h; exact ⟨h,rfl⟩
 |bool=>intro x cs h; exact ⟨h,rfl⟩
 |str=>intro x cs h; exact ⟨h,rfl⟩
 |flt=>intro x cs h; exact ⟨h,rfl⟩
 |unit=>intro x cs h; exact ⟨h,rfl⟩
 |eos u=>intro x cs h; exact ⟨h,rfl⟩
 |pair a b iha ihb=>
  intro x cs h
  obtain ⟨c1,c2,e,h1,h2⟩:=h
  exact ⟨⟨c1,c2,e,(iha h1).1,(ihb h2).1⟩,by simp only [fU,Ty.frz,(iha h1).2,(ihb h2).2]⟩
 |arr n t ih=>
  intro x cs h
  exact ⟨same (gJ s _) (h.kill s),lN s _⟩
 |sl t ih=>intro x cs h; exact ⟨same (List.not_mem_nil) h,rfl⟩
 |ref t ih=>intro x cs h; exact ⟨same (List.not_mem_nil) h,rfl⟩
 |nif=>intro x cs h; exact ⟨h,rfl⟩
 |slf=>intro x cs h; exact ⟨h,rfl⟩
 |nsl t=>intro x cs h; exact ⟨h,rfl⟩
 |sf r t pa=>
  intro x cs h
  have hl:=h.length
  have key:∀ e:DV,fU s d (.sf r t pa) x=e→(ai w I' tk' e.1 e.2 cs∧e.1.frz= .slf)→ai w I' tk' (fU s d (.sf r t pa) x).1 (fU s d (.sf r t pa) x).2 cs∧(fU s d (.sf r t pa) x).1.frz= .slf:=by
   rintro e rfl h; exact h
  cases hr:Nat.beq r s
  ·exact key ⟨.sf r t pa,x⟩ (by unfold fU; rw [hr]; rfl) ⟨same (by simp only [mentions,List.mem_singleton]; exact fun e=>eP.1 hr e.symm) h,rfl⟩
  ·exact key ⟨.junk .slf,()⟩ (by unfold fU; rw [hr]; rfl) ⟨hl,rfl⟩
 |vw r t=>
  intro x cs h
  have hl:=h.length
  have key:∀ e:DV,fU s d (.vw r t) x=e→(ai w I' tk' e.1 e.2 cs∧e.1.frz= .sl t)→ai w I' tk' (fU s d (.vw r t) x).1 (fU s d (.vw r t) x).2 cs∧(fU s d (.vw r t) x).1.frz= .sl t:=by
   rintro e rfl h; exact h
  cases hr:Nat.beq r s
  ·exact key ⟨.vw r t,x⟩ (by unfold fU; rw [hr]; rfl) ⟨same (by simp only [mentions,List.mem_singleton]; exact fun e=>eP.1 hr e.symm) h,rfl⟩
  ·obtain rfl:=beq_iff.1 hr
   obtain ⟨q',h1,h2,rfl⟩:=h
   rw [hq] at h1; cases h1
   cases he:kN d with
   |none=>exact key ⟨.junk (.sl t),()⟩ (by unfold fU; rw [hr,he]; rfl) ⟨hl,rfl⟩
   |some y=>
    obtain ⟨e,_,hc⟩:=I8 (tk':=tk') hd hok hI hb h2 he
    exact key ⟨.sl y.1,y.2⟩ (by unfold fU; rw [hr,he]; rfl) ⟨hc,by simp only [Ty.frz,e]⟩
 |pt r t pa=>
  intro x cs h
  have hl:=h.length
  have key:∀ e:DV,fU s d (.pt r t pa) x=e→(ai w I' tk' e.1 e.2 cs∧e.1.frz= .ref t)→ai w I' tk' (fU s d (.pt r t pa) x).1 (fU s d (.pt r t pa) x).2 cs∧(fU s d (.pt r t pa) x).1.frz= .ref t:=by
   rintro e rfl h; exact h
  cases hr:Nat.beq r s
  ·exact key ⟨.pt r t pa,x⟩ (by unfold fU; rw [hr]; rfl) ⟨same (by simp only [mentions,List.mem_singleton]; exact fun e=>eP.1 hr e.symm) h,rfl⟩
  ·obtain rfl:=beq_iff.1 hr
   obtain ⟨v,rfl,q',b,off,h1,h2,h3,rfl⟩:=h
   rw [hq] at h1; cases h1
   cases he:iI d.1 d.2 pa with
   |none=>exact key ⟨.junk (.ref t),()⟩ (by unfold fU; rw [hr,he]; rfl) ⟨hl,rfl⟩
   |some y=>
    cases hp:y.1.plain with
    |false=>exact key ⟨.junk (.ref t),()⟩ (by unfold fU; rw [hr,he]; simp only [cond_true,hp,cond_false]) ⟨hl,rfl⟩
    |true=>
     obtain ⟨e,hc⟩:=En (tk':=tk') hd hok hnp hI hb he hp h2 h3
     exact key ⟨.ref y.1,some y.2⟩ (by unfold fU; rw [hr,he]; simp only [cond_true,hp]) ⟨hc,by simp only [Ty.frz,e]⟩
 |mp r k v=>
  intro x cs h
  have hl:=h.length
  have key:∀ e:DV,fU s d (.mp r k v) x=e→(ai w I' tk' e.1 e.2 cs∧e.1.frz= .mp 0 k v)→ai w I' tk' (fU s d (.mp r k v) x).1 (fU s d (.mp r k v) x).2 cs∧(fU s d (.mp r k v) x).1.frz= .mp 0 k v:=by
   rintro e rfl h; exact h
  cases hr:Nat.beq r s
  ·exact key ⟨.mp r k v,x⟩ (by unfold fU; rw [hr]; rfl) ⟨same (by simp only [mentions,List.mem_singleton]; exact fun e=>eP.1 hr e.symm) h,rfl⟩
  ·exact key ⟨.junk (.mp 0 k v),()⟩ (by unfold fU; rw [hr]; rfl) ⟨hl,rfl⟩
 |rid r t=>
  intro x cs h
  have hl:=h.length
  have key:∀ e:DV,fU s d (.rid r t) x=e→(ai w I' tk' e.1 e.2 cs∧e.1.frz= .sl t)→ai w I' tk' (fU s d (.rid r t) x).1 (fU s d (.rid r t) x).2 cs∧(fU s d (.rid r t) x).1.frz= .sl t:=by
   rintro e rfl h; exact h
  cases hr:Nat.beq r s
  ·exact key ⟨.rid r t,x⟩ (by unfold fU; rw [hr]; rfl) ⟨same (by simp only [mentions,List.mem_singleton]; exact fun e=>eP.1 hr e.symm) h,rfl⟩
  ·exact key ⟨.junk (.sl t),()⟩ (by unfold fU; rw [hr]; rfl) ⟨hl,rfl⟩
 |junk t=>intro x cs h; exact ⟨h,rfl⟩
 |dyn t=>intro x cs h; exact h.elim
 |map k v=>intro x cs h; exact h.elim
 |pool t=>intro x cs h; exact h.elim
theorem Gx (s:Nat) (d:DV) {t:Ty} (x:t.den) (h:t.bL=false):(fU s d t x).1.bL=false:=by
 cases t<;>first|rfl|cases h; done|skip
 ·simp only [fU]; cases Nat.beq _ s<;>rfl
 ·simp only [fU]; cases Nat.beq _ s<;>first|rfl|(simp only [cond_true]; split<;>rfl)
 ·simp only [fU]; cases Nat.beq _ s
  ·rfl
  ·simp only [cond_true]
   split
   ·rename_i y _; cases y.1.plain<;>rfl
   ·rfl
 ·simp only [fU]; cases Nat.beq _ s<;>rfl
 ·simp only [fU]; cases Nat.beq _ s<;>rfl
theorem aA.fz {s:Nat} {q:Tk} {d e:DV} {v:Value} (hq:tk s=some q) (hd:aI w I tk q d) (hok:d.mD=true) (hnp:d.1.fD=false) (hI:∀ b,I b→I' b) (hb:∀ b,q.blk=some b→I' b) (ht:∀ r,r≠s→tk' r=tk r)
  (h:aA w I tk e.1 e.2 v) (hn:e.1.bL=false):aA w I' tk' (fU s d e.1 e.2).1 (fU s d e.1 e.2).2 v:=by
 unfold aA at h
 split at h
 ·rename_i ha
  obtain ⟨cs,e1,h1⟩:=h
  obtain ⟨h2,h3⟩:=h1.fz hq hd hok hnp hI hb ht
  unfold aA
  rw [if_pos (by rw [jb h3]; exact ha)]
  exact ⟨cs,e1,h2⟩
 ·rename_i ha
  obtain ⟨h2,h3⟩:=ai.fz hq hd hok hnp hI hb ht h
  unfold aA
  rw [if_neg (by rw [jb h3]; exact ha)]
  exact h2
theorem zl {d:DV} {v:Value} (hn:d.1.bL=false) (h:aA w I tk d.1 d.2 v):dB w I tk (mkS d) v:=by
 unfold mkS
 cases hp:d.1.plain with
 |true=>exact ⟨hp,h⟩
 |false=>exact ⟨hn,h⟩
theorem Kb (d:DV):(mkS d).jL=true:=by unfold mkS; cases d.1.plain<;>rfl
theorem dB.frz {s:Nat} {q:Tk} {d:DV} (hq:tk s=some q) (hd:aI w I tk q d) (hok:d.mD=true) (hnp:d.1.fD=false) (hI:∀ b,I b→I' b) (hb:∀ b,q.blk=some b→I' b) (ht:∀ r,r≠s→tk' r=tk r)
  {v:SV} {x:Value} (h:dB w I tk v x):dB w I' tk' (v.mP s d) x:=by
 have same:(∀ r,r∈v.sites→r≠s)→dB w I' tk' v x:=fun hn=>(h.world hI (fun _ _=>rfl) (aU.le.refl _)).congr fun r hr=>ht r (hn r hr)
 cases v with
 |p e=>exact same (by simp [SV.sites])
 |sd e=>
  simp only [SV.mP]
  cases hm:(mentions e.1).any (Nat.beq s) with
  |true=>exact zl (Gx s d _ h.1) (aA.fz hq hd hok hnp hI hb ht h.2 h.1)
  |false=>
   refine same fun r hr e=> ?_
   subst e
   rw [List.any_eq_false] at hm
   exact hm r hr (beq_iff.2 rfl)
 |ud r t=>
  simp only [SV.mP]
  cases hr:Nat.beq r s
  ·exact same (by simp only [SV.sites,List.mem_singleton]; rintro _ rfl; exact eP.1 hr)
  ·exact trivial
 |nilm=>exact h
 |va r t=>
  simp only [SV.mP]
  cases hr:Nat.beq r s
  ·exact same (by simp only [SV.sites,List.mem_singleton]; rintro _ rfl; exact eP.1 hr)
  ·obtain rfl:=beq_iff.1 hr
   obtain ⟨q',h1,h2,rfl⟩:=h
   rw [hq] at h1; cases h1
   simp only [cond_true]
   cases he:kN d with
   |none=>exact trivial
   |some y=>
    obtain ⟨_,hp,hc⟩:=I8 (tk':=tk') hd hok hI hb h2 he
    exact ⟨hp,aA.one rfl hc⟩
 |vs r t pa lo n=>
  simp only [SV.mP]
  cases hr:Nat.beq r s
  ·exact same (by simp only [SV.sites,List.mem_singleton]; rintro _ rfl; exact eP.1 hr)
  ·obtain rfl:=beq_iff.1 hr
   obtain ⟨q',h1,h2⟩:=h
   rw [hq] at h1; cases h1
   simp only [cond_true]
   cases he:(iI d.1 d.2 pa).bind kN with
   |none=>exact trivial
   |some y=>
    obtain ⟨_,hp,hc⟩:=N7 (tk':=tk') hd hok hnp hI hb h2 he
    exact ⟨hp,aA.one rfl hc⟩
 |pb r t pa=>
  simp only [SV.mP]
  cases hr:Nat.beq r s
  ·exact same (by simp only [SV.sites,List.mem_singleton]; rintro _ rfl; exact eP.1 hr)
  ·obtain rfl:=beq_iff.1 hr
   obtain ⟨q',b,off,h1,h2,h3,rfl⟩:=h
   rw [hq] at h1; cases h1
   simp only [cond_true]
   cases he:iI d.1 d.2 pa with
   |none=>exact trivial
   |some y=>
    cases hp:y.1.plain with
    |false=>simp only [hp,cond_false]; exact trivial
    |true=>
     obtain ⟨_,hc⟩:=En (tk':=tk') hd hok hnp hI hb he hp h2 h3
     simp only [hp,cond_true]
     exact ⟨hp,aA.one rfl hc⟩
 |mp r k x=>
  simp only [SV.mP]
  cases hr:Nat.beq r s
  ·exact same (by simp only [SV.sites,List.mem_singleton]; rintro _ rfl; exact eP.1 hr)
  ·exact trivial
 |nil=>exact h
 |nilp=>exact h
 |clo f caps=>exact h.elim
 |tup l=>exact h.elim
 |dead=>exact trivial
 |und=>exact h
theorem AX {v:SV} (hv:v.jL=true) {s:Nat} {c:DV}:v.BQ s c=v.mP s c:=by
 cases v<;>first|rfl|cases hv
theorem bf.BQ {s:Nat} {q:Tk} {d:DV} (hq:tk s=some q) (hd:aI w I tk q d) (hok:d.mD=true) (hnp:d.1.fD=false) (hI:∀ b,I b→I' b) (hb:∀ b,q.blk=some b→I' b) (ht:∀ r,r≠s→tk' r=tk r)
  {v:SV} {x:Value} (h:bf w I tk v x):bf w I' tk' (v.BQ s d) x:=by
 have all:∀ {l:List SV} {vs:Array Value},(∀ (j:Nat) (c:SV) (x:Value),l[j]?=some c→vs[j]?=some x→dB w I tk c x)→
   ∀ (j:Nat) (c:SV) (x:Value),(l.map (SV.mP s d))[j]?=some c→vs[j]?=some x→dB w I' tk' c x:=by
  intro l vs hc j c y h1 h2
  rw [List.getElem?_map] at h1
  cases hj:l[j]? with
  |none=>rw [hj] at h1; cases h1
  |some c0=>rw [hj] at h1; simp only [Option.map_some,Option.some.injEq] at h1; subst h1; exact (hc j c0 y hj h2).frz hq hd hok hnp hI hb ht
 cases hv:v.jL with
 |true=>rw [AX hv]; exact bf.of1 (((bf.one hv).1 h).frz hq hd hok hnp hI hb ht)
 |false=>
  cases v with
  |clo f caps=>obtain ⟨vs,e,hl,hc⟩:=h; exact ⟨vs,e,by simpa using hl,all hc⟩
  |tup l=>obtain ⟨vs,e,hl,hc⟩:=h; exact ⟨vs,e,by simpa using hl,all hc⟩
  |_=>cases hv
def DV.fD (d:DV):Bool:=d.1.fD
theorem I9 {s:Nat} {c:DV} (h:c.1.fD=false) (v:SV):v.frz s c=v.BQ s c:=by
 obtain ⟨t,x⟩:=c
 cases t<;>first|rfl|cases h
theorem NW {s:Nat} {c:DV} (h:c.1.fD=false) (d:DV):DV.fz s c d=fU s c d.1 d.2:=by
 obtain ⟨t,x⟩:=c
 cases t<;>first|rfl|cases h
theorem uP (s:Nat) (u:Ty):∀ t:Ty,(Ty.thaw s u t).size=t.size:=by
 intro t
 induction t with
 |pair a b iha ihb=>simp only [Ty.thaw,Ty.size,iha,ihb]
 |arr n t ih=>simp only [Ty.thaw,Ty.size,ih]
 |rid r t=>simp only [Ty.thaw,thT]; cases Nat.beq r s<;>cases decide (u=t)<;>rfl
 |_=>rfl
theorem zH (s:Nat) (u:Ty):∀ t:Ty,(Ty.thaw s u t).frz=t.frz:=by
 intro t
 induction t with
 |pair a b iha ihb=>simp only [Ty.thaw,Ty.frz,iha,ihb]
 |arr n t ih=>simp only [Ty.thaw,Ty.frz,ih]
 |rid r t=>simp only [Ty.thaw,thT]; cases Nat.beq r s<;>cases decide (u=t)<;>rfl
 |dyn t ih=>simp only [Ty.thaw,Ty.frz,ih]
 |_=>rfl
theorem zF (s:Nat) (u:Ty) {t:Ty} (h:t.bL=false):(Ty.thaw s u t).bL=false:=by
 cases t<;>first|rfl|cases h; done|skip
 rename_i r t
 simp only [Ty.thaw,thT]; cases Nat.beq r s<;>cases decide (u=t)<;>rfl
theorem QC {α:Type} {l:List α} {k:Nat} {x d:α} (h:l[k]?=some x):l.getD k d=x:=by
 rw [List.getD_eq_getElem?_getD,h]; rfl
theorem R7 {r:RTk} {t:Ty} {x:List t.den} (hp:t.plain=true) (h:kK w I tk r t x) (hI:∀ b,I b→I' b) (hb:∀ b,r.blk=some b→I' b):ai w I' tk' (.sl t) x [r.hdr]:=by
 obtain ⟨h1,h2,h3⟩:=h
 refine ⟨r.ad,r.cap,by unfold RTk.hdr; rw [h1],h2,?_⟩
 rcases h3 with ⟨_,h5⟩|⟨b,e1,e2,cs,e3,e4,e5⟩
 ·left
  exact List.length_eq_zero_iff.1 (by omega)
 ·right
  refine ⟨hp,b,r.off,e2,hb b e1,fun i y hy=> ?_⟩
  obtain ⟨c,hc,hv⟩:=e5 i y hy
  refine ⟨c,(hc.plain hp).mono hI (fun _ _=>rfl) (aU.le.refl _),fun j v hj=> ?_⟩
  rw [e3.cell]
  exact hv j v hj
theorem ai.thaw {s:Nat} {q:Tk} {u:Ty} {l:List (Nat×List u.den)} (hq:tk s=some q) (hd:aI w I tk q ⟨.pool u,l⟩) (hI:∀ b,I b→I' b) (hb:∀ b,q.own b→I' b):
  ∀ {t:Ty} {x:t.den} {cs:List Value},ai w I tk t x cs→ai w I' tk (Ty.thaw s u t) (pO s u l t x) cs:=by
 intro t
 have same:∀ {t:Ty} {x:t.den} {cs:List Value},ai w I tk t x cs→ai w I' tk t x cs:=fun h=>h.mono hI (fun _ _=>rfl) (aU.le.refl _)
 induction t with
 |pair a b iha ihb=>
  intro x cs h
  obtain ⟨c1,c2,e,h1,h2⟩:=h
  exact ⟨c1,c2,e,iha h1,ihb h2⟩
 |arr n t ih=>
  intro x cs h
  obtain ⟨h1,h2,h3⟩:=h
  rw [KV]
  refine ⟨by rw [List.length_map]; exact h1,by rw [uP]; exact h2,fun i y hy=> ?_⟩
  rw [List.getElem?_map] at hy
  obtain ⟨z,hz,rfl⟩:=Option.map_eq_some_iff.1 hy
  rw [uP]
  exact ih (h3 i z hz)
 |rid r t=>
  intro x cs h
  show ai w I' tk (thT (Nat.beq r s) (decide (u=t)) r t) (thX u l r t x (Nat.beq r s) (decide (u=t)) of_decide_eq_true) cs
  have hl:=h.length
  generalize hx:(of_decide_eq_true:decide (u=t)=true→u=t)=pf
  clear hx
  generalize hb1:Nat.beq r s=b1
  generalize decide (u=t)=b2 at pf
  cases b1 with
  |false=>exact same h
  |true=>
   cases b2 with
   |false=>exact hl
   |true=>
    obtain rfl:=pf rfl
    obtain rfl:=beq_iff.1 hb1
    obtain ⟨q',k,g1,g2,g3,rfl⟩:=h
    rw [hq] at g1; cases g1
    obtain ⟨_,hp,_,hlen,_,hrow⟩:=hd
    have hk:x<l.length:=by rw [← hlen]; exact (List.getElem?_eq_some_iff.1 g3).1
    have hr:=hrow x k _ g3 (List.getElem?_eq_getElem hk)
    show ai w I' tk (.sl u) (l.getD x (0,[])).2 [k.hdr]
    rw [QC (List.getElem?_eq_getElem hk)]
    exact R7 hp hr hI fun b e=>hb b (Tk.uS g3 e)
 |dyn t ih=>intro x cs h; exact h.elim
 |int k=>intro x cs h; exact same h
 |bool=>intro x cs h; exact same h
 |str=>intro x cs h; exact same h
 |flt=>intro x cs h; exact same h
 |unit=>intro x cs h; exact same h
 |eos u=>intro x cs h; exact same h
 |sl t ih=>intro x cs h; exact same h
 |ref t ih=>intro x cs h; exact same h
 |nif=>intro x cs h; exact same h
 |slf=>intro x cs h; exact same h
 |nsl t=>intro x cs h; exact same h
 |sf r t pa=>intro x cs h; exact same h
 |vw r t=>intro x cs h; exact same h
 |pt r t pa=>intro x cs h; exact same h
 |mp r k v=>intro x cs h; exact same h
 |junk t=>intro x cs h; exact same h
 |map k v=>intro x cs h; exact same h
 |pool t=>intro x cs h; exact same h
theorem aA.thaw {s:Nat} {q:Tk} {u:Ty} {l:List (Nat×List u.den)} (hq:tk s=some q) (hd:aI w I tk q ⟨.pool u,l⟩) (hI:∀ b,I b→I' b) (hb:∀ b,q.own b→I' b)
  {d:DV} {v:Value} (h:aA w I tk d.1 d.2 v):aA w I' tk (DV.thaw s u l d).1 (DV.thaw s u l d).2 v:=by
 unfold aA at*
 have ha:(DV.thaw s u l d).1.isAgg=d.1.isAgg:=jb (zH s u d.1)
 rw [ha]
 split
 ·rename_i ht
  simp only [ht,if_true] at h
  obtain ⟨cs,e,h⟩:=h
  exact ⟨cs,e,h.thaw hq hd hI hb⟩
 ·rename_i ht
  simp only [ht] at h
  exact ai.thaw hq hd hI hb h
theorem dB.thaw {s:Nat} {q:Tk} {u:Ty} {l:List (Nat×List u.den)} (hq:tk s=some q) (hd:aI w I tk q ⟨.pool u,l⟩) (hI:∀ b,I b→I' b) (hb:∀ b,q.own b→I' b)
  {v:SV} {x:Value} (h:dB w I tk v x):dB w I' tk (SV.pQ s u l v) x:=by
 have same:dB w I' tk v x:=h.world hI (fun _ _=>rfl) (aU.le.refl _)
 cases v<;>first|exact same|skip
 rename_i d
 simp only [SV.pQ]
 cases hm:(mentions d.1).any (Nat.beq s) with
 |true=>exact zl (d:=DV.thaw s u l d) (zF s u h.1) (h.2.thaw hq hd hI hb)
 |false=>exact same
theorem Fb {s:Nat} {u:Ty} {l:List (Nat×List u.den)} {v:SV} (hv:v.jL=true):(SV.pQ s u l v).jL=true:=by
 cases v<;>first|exact hv|skip
 rename_i d
 simp only [SV.pQ]
 cases (mentions d.1).any (Nat.beq s) with
 |true=>exact Kb _
 |false=>rfl
theorem zG {s:Nat} {u:Ty} {l:List (Nat×List u.den)} {v:SV} (hv:v.jL=true):SV.thaw s u l v=SV.pQ s u l v:=by
 cases v<;>first|rfl|cases hv
theorem bf.thaw {s:Nat} {q:Tk} {u:Ty} {l:List (Nat×List u.den)} (hq:tk s=some q) (hd:aI w I tk q ⟨.pool u,l⟩) (hI:∀ b,I b→I' b) (hb:∀ b,q.own b→I' b)
  {v:SV} {x:Value} (h:bf w I tk v x):bf w I' tk (SV.thaw s u l v) x:=by
 have all:∀ {r:List SV} {vs:Array Value},(∀ (j:Nat) (c:SV) (x:Value),r[j]?=some c→vs[j]?=some x→dB w I tk c x)→
   ∀ (j:Nat) (c:SV) (x:Value),(r.map (SV.pQ s u l))[j]?=some c→vs[j]?=some x→dB w I' tk c x:=by
  intro r vs hc j c y h1 h2
  rw [List.getElem?_map] at h1
  obtain ⟨c0,hj,rfl⟩:=Option.map_eq_some_iff.1 h1
  exact (hc j c0 y hj h2).thaw hq hd hI hb
 cases hv:v.jL with
 |true=>rw [zG hv]; exact bf.of1 (((bf.one hv).1 h).thaw hq hd hI hb)
 |false=>
  cases v with
  |clo f caps=>obtain ⟨vs,e,hl,hc⟩:=h; exact ⟨vs,e,by simpa using hl,all hc⟩
  |tup r=>obtain ⟨vs,e,hl,hc⟩:=h; exact ⟨vs,e,by simpa using hl,all hc⟩
  |_=>cases hv
theorem bf.Uy {s:Nat} {q:Tk} {u:Ty} {l:List (Nat×List u.den)} (hq:tk s=some q) (hd:aI w I tk q ⟨.pool u,l⟩) (hI:∀ b,I b→I' b) (hb:∀ b,q.own b→I' b) (ht:∀ r,r≠s→tk' r=tk r)
  {v:SV} {x:Value} (h:bf w I tk v x):bf w I' tk' (v.frz s ⟨.pool u,l⟩) x:=
 ((h.thaw hq hd hI hb).kill s).congr fun r hr=>ht r fun e=>Ed s _ (e ▸ hr)
theorem bf.frz {s:Nat} {q:Tk} {d:DV} (hq:tk s=some q) (hd:aI w I tk q d) (hok:d.mD=true) (hI:∀ b,I b→I' b) (hb:∀ b,q.own b→I' b) (ht:∀ r,r≠s→tk' r=tk r)
  {v:SV} {x:Value} (h:bf w I tk v x):bf w I' tk' (v.frz s d) x:=by
 cases hp:d.1.fD with
 |false=>rw [I9 hp]; exact h.BQ hq hd hok hp hI (fun b e=>hb b (.inl e)) ht
 |true=>
  obtain ⟨t,y⟩:=d
  cases t<;>first|cases hp; done|skip
  exact h.Uy hq hd hI hb ht
end Go.Own
namespace Go.Own
variable {C:Cx} {w w':World} {I I':Nat→Prop} {st:St} {tm:Array Value} {tk tk':aU}
theorem aI.fz0 {s:Nat} {q p:Tk} {d e:DV} (hq:tk s=some q) (hd:aI w I tk q d) (hok:d.mD=true) (hnp:d.1.fD=false) (hI:∀ b,I b→I' b) (hb:∀ b,q.blk=some b→I' b) (ht:∀ r,r≠s→tk' r=tk r)
  (h:aI w I tk p e):aI w I' tk' p (fU s d e.1 e.2):=by
 obtain ⟨t,x⟩:=e
 cases ht':t.bL with
 |true=>
  cases t<;>first|cases ht'; done|skip
  ·simp only [fU,DV.jZ]
   exact ((h.world hI (fun _ _=>rfl) (aU.le.refl _) (fun _ _=>rfl)).kill s).congr (fun r hr=>ht r fun e=>gJ s _ (e ▸ hr))
  ·exact (h.world hI (fun _ _=>rfl) (aU.le.refl _) (fun _ _=>rfl)).congr (fun r hr=>absurd hr List.not_mem_nil)
  ·exact (h.world hI (fun _ _=>rfl) (aU.le.refl _) (fun _ _=>rfl)).congr (fun r hr=>absurd hr List.not_mem_nil)
 |false=>
  obtain ⟨h1,h2,b,cs,h3,h4,h5⟩:=(aI.str ht').1 h
  obtain ⟨g1,g2⟩:=h5.fz hq hd hok hnp hI hb ht
  exact (aI.str (Gx s d x ht')).2 ⟨by rw [g2]; exact h1,h2,b,cs,h3,h4,g1⟩
theorem aI.thaw {s:Nat} {q p:Tk} {u:Ty} {l:List (Nat×List u.den)} {e:DV} (hq:tk s=some q) (hd:aI w I tk q ⟨.pool u,l⟩) (hI:∀ b,I b→I' b) (hb:∀ b,q.own b→I' b)
  (h:aI w I tk p e):aI w I' tk p (DV.thaw s u l e):=by
 obtain ⟨t,x⟩:=e
 cases ht':t.bL with
 |true=>
  cases t<;>first|cases ht'; done|skip
  ·obtain ⟨h1,hp,h2,h3,h4,h5⟩:=h
   simp only [DV.thaw,KU]
   refine ⟨by rw [zH]; exact h1,zF s u hp,by simpa using h2,by simpa using h3,h4,h5.imp id ?_⟩
   rintro ⟨b,e1,e2,cs,e3,e4,e5⟩
   refine ⟨b,e1,e2,cs,e3,by rw [uP]; exact e4,fun i y hy=> ?_⟩
   rw [List.getElem?_map] at hy
   obtain ⟨z,hz,rfl⟩:=Option.map_eq_some_iff.1 hy
   obtain ⟨c,hc,hv⟩:=e5 i z hz
   exact ⟨c,hc.thaw hq hd hI hb,by rw [uP]; exact hv⟩
  ·exact h.world hI (fun _ _=>rfl) (aU.le.refl _) (fun _ _=>rfl)
  ·exact h.world hI (fun _ _=>rfl) (aU.le.refl _) (fun _ _=>rfl)
 |false=>
  obtain ⟨h1,h2,b,cs,h3,h4,h5⟩:=(aI.str ht').1 h
  exact (aI.str (zF s u ht')).2 ⟨by rw [zH]; exact h1,h2,b,cs,h3,h4,h5.thaw hq hd hI hb⟩
theorem aI.fz {s:Nat} {q p:Tk} {d e:DV} (hq:tk s=some q) (hd:aI w I tk q d) (hok:d.mD=true) (hI:∀ b,I b→I' b) (hb:∀ b,q.own b→I' b) (ht:∀ r,r≠s→tk' r=tk r)
  (h:aI w I tk p e):aI w I' tk' p (DV.fz s d e):=by
 cases hp:d.1.fD with
 |false=>rw [NW hp]; exact aI.fz0 hq hd hok hp hI (fun b e=>hb b (.inl e)) ht h
 |true=>
  obtain ⟨t,y⟩:=d
  cases t<;>first|cases hp; done|skip
  simp only [DV.fz,DV.jZ,DV.Fa]
  exact ((aI.thaw (e:=e) hq hd hI hb h).kill s).congr fun r hr=>ht r fun e=>gJ s _ (e ▸ hr)
theorem sW (s r:Nat) (c:DV) (st:St):(st.jI s c).box r=if r=s then none else (st.box r).map (DV.fz s c):=by
 unfold St.jI St.box
 rw [vZ]
 split
 ·rfl
 ·exact yh (DV.fz s c) r st.bx
theorem qG (s i:Nat) (c:DV) (st:St):(st.jI s c).slot i=(st.slot i).frz s c:=Fq st _ (SV.frz s c) (by obtain ⟨t,x⟩:=c; cases t<;>rfl) i
theorem Inv.freeze (h:Inv C st tm w I tk) {s:Nat} {d:DV} {q:Tk} (hs:st.box s=some d) (hq:tk s=some q) (hd:aI w I tk q d) (hok:d.mD=true):
  Inv C (st.jI s d) tm w (fun b=>I b∨q.own b) (fun r=>if r=s then none else tk r):=by
 have hI:∀ b,I b→I b∨q.own b:=fun b hb=> .inl hb
 have hb:∀ b,q.own b→I b∨q.own b:=fun b hb=> .inr hb
 have ht:∀ r,r≠s→(fun r=>if r=s then none else tk r:aU) r=tk r:=fun r hr=>if_neg hr
 have old:∀ {r p},(if r=s then none else tk r)=some p→r≠s∧tk r=some p:=by
  intro r p hp
  split at hp
  ·cases hp
  ·rename_i hr; exact ⟨hr,hp⟩
 exact {
  len:=by simpa [St.jI] using h.len
  small:=by simpa [St.jI] using h.small
  srt:=by
   have h1:=h.srt
   unfold St.srt at*
   unfold St.jI
   refine Dx ?_ List.filter_sublist
   simpa [List.map_map,Function.comp_def] using h1
  slots:=fun i hi=>by rw [qG]; exact (h.slots i (by simpa [St.jI] using hi)).frz hq hd hok hI hb ht
  boxes:=fun r e hr=>by
   rw [sW] at hr
   split at hr
   ·cases hr
   ·rename_i hrs
    cases hb':st.box r with
    |none=>rw [hb'] at hr; cases hr
    |some e0=>
     rw [hb'] at hr
     simp only [Option.map_some,Option.some.injEq] at hr
     subst hr
     obtain ⟨p,hp,he⟩:=h.boxes r e0 hb'
     exact ⟨p,(ht r hrs).trans hp,aI.fz hq hd hok hI hb ht he⟩
  inj:=fun a b qa qb k h1 h2 h3 h4=>h.inj a b qa qb k (old h1).2 (old h2).2 h3 h4
  tokLt:=fun a qa k h1 h2=>h.tokLt a qa k (old h1).2 h2
  tokI:=fun a qa k h1 h2 hk=>by
   rcases hk with hk|hk
   ·exact h.tokI a qa k (old h1).2 h2 hk
   ·exact (old h1).1 (h.inj a s qa q k (old h1).2 hq h2 hk)
  tys:=fun a qa k h1 h2=>h.tys a qa k (old h1).2 h2
  ilt:=fun b hb=>by
   rcases hb with hb|hb
   ·exact h.ilt b hb
   ·exact h.tokLt s q b hq hb
  fresh:=fun a qa k h1 h2=>h.fresh a qa k (old h1).2 h2
  ext:=fun j q' hj e he=>by
   rw [sW] at he
   split at he
   ·cases he
   ·rename_i hjs
    cases hb':st.box (site j) with
    |none=>rw [hb'] at he; cases he
    |some e0=>exact (ht _ hjs).trans (h.ext j q' hj e0 hb')
  keep:=h.keep
  size:=h.size
  os:=h.os
  output:=h.output
  tape:=h.tape
  sub:=fun b hb=> .inl (h.sub b hb)
  new:=fun b hb=>by
   rcases hb with hb|hb
   ·exact h.new b hb
   ·rcases h.fresh s q b hq hb with h1|⟨j,q',h1,h2⟩
    ·exact .inr (.inl h1)
    ·exact .inr (.inr ⟨j,q',h1,h2⟩)}
end Go.Own
namespace Go.Own
variable {C:Cx} {w w':World} {I I':Nat→Prop} {st:St} {tm:Array Value} {tk tk':aU}
theorem pY (ρ:Nat→Nat):∀ t:Ty,(t.ren ρ).size=t.size
 | .int _=>rfl
 | .bool=>rfl
 | .str=>rfl
 | .flt=>rfl
 | .unit=>rfl
 | .eos _=>rfl
 | .pair a b=>by simp only [Ty.ren,Ty.size,pY ρ a,pY ρ b]
 | .arr n t=>by simp only [Ty.ren,Ty.size,pY ρ t]
 | .sl _=>rfl
 | .ref _=>rfl
 | .nif=>rfl
 | .slf=>rfl
 | .nsl _=>rfl
 | .sf _ _ _=>rfl
 | .vw _ _=>rfl
 | .pt _ _ _=>rfl
 | .mp _ _ _=>rfl
 | .rid _ _=>rfl
 | .junk _=>rfl
 | .dyn _=>rfl
 | .map _ _=>rfl
 | .pool _=>rfl
theorem sH (ρ:Nat→Nat):∀ t:Ty,(t.ren ρ).frz=t.frz
 | .int _=>rfl
 | .bool=>rfl
 | .str=>rfl
 | .flt=>rfl
 | .unit=>rfl
 | .eos _=>rfl
 | .pair a b=>by simp only [Ty.ren,Ty.frz,sH ρ a,sH ρ b]
 | .arr n t=>by simp only [Ty.ren,Ty.frz,sH ρ t]
 | .sl _=>rfl
 | .ref _=>rfl
 | .nif=>rfl
 | .slf=>rfl
 | .nsl _=>rfl
 | .sf _ _ _=>rfl
 | .vw _ _=>rfl
 | .pt _ _ _=>rfl
 | .mp _ _ _=>rfl
 | .rid _ _=>rfl
 | .junk _=>rfl
 | .dyn t=>by simp only [Ty.ren,Ty.frz,sH ρ t]
 | .map _ _=>rfl
 | .pool _=>rfl
theorem DT (ρ:Nat→Nat) (t:Ty):(t.ren ρ).bL=t.bL:=by cases t<;>rfl
theorem ai.ren (ρ:Nat→Nat):∀ {t:Ty} {x:t.den} {cs:List Value},(∀ s,s∈mentions t→tk' (ρ s)=tk s)→ai w I tk t x cs→ai w I tk' (t.ren ρ) (tH ρ t x) cs:=by
 intro t
 induction t with
 |int k=>intro x cs _ h; exact h
 |bool=>intro x cs _ h; exact h
 |str=>intro x cs _ h; exact h
 |flt=>intro x cs _ h; exact h
 |unit=>intro x cs _ h; exact h
 |eos u=>intro x cs _ h; exact h
 |pair a b iha ihb=>
  intro x cs hm h
  obtain ⟨c1,c2,e,h1,h2⟩:=h
  exact ⟨c1,c2,e,iha (fun s hs=>hm s (List.mem_append_left _ hs)) h1,ihb (fun s hs=>hm s (List.mem_append_right _ hs)) h2⟩
 |arr n t ih=>
  intro x cs hm h
  obtain ⟨h1,h2,h3⟩:=h
  refine ⟨by rw [zU,List.length_map]; exact h1,by rw [pY]; exact h2,fun i y hy=> ?_⟩
  rw [zU,List.getElem?_map] at hy
  cases hx:x[i]? with
  |none=>rw [hx] at hy; cases hy
  |some z=>
   rw [hx] at hy
   simp only [Option.map_some,Option.some.injEq] at hy
   subst hy
   rw [pY]
   exact ih hm (h3 i z hx)
 |sl t ih=>intro x cs _ h; exact h.H8
 |ref t ih=>intro x cs _ h; exact h.Dv
 |nif=>intro x cs _ h; exact h
 |slf=>intro x cs _ h; exact h
 |nsl t=>intro x cs _ h; exact h
 |sf s t pa=>
  intro x cs hm h
  rcases h with h|⟨h0,v,h1,k,b,off,h2,h3⟩
  ·exact .inl h
  ·exact .inr ⟨h0,v,h1,k,b,off,(hm s (by simp [mentions])).trans h2,h3⟩
 |vw s t=>intro x cs hm h; obtain ⟨k,h1,h2⟩:=h; exact ⟨k,(hm s (by simp [mentions])).trans h1,h2⟩
 |pt s t pa=>intro x cs hm h; obtain ⟨v,h1,k,b,off,h2,h3⟩:=h; exact ⟨v,h1,k,b,off,(hm s (by simp [mentions])).trans h2,h3⟩
 |mp s k v=>intro x cs hm h; obtain ⟨q,b,h1,h2⟩:=h; exact ⟨q,b,(hm s (by simp [mentions])).trans h1,h2⟩
 |rid p t=>intro x cs hm h; obtain ⟨q,r,h1,h2⟩:=h; exact ⟨q,r,(hm p (by simp [mentions])).trans h1,h2⟩
 |junk t=>intro x cs _ h; exact h
 |dyn t=>intro x cs _ h; exact h
 |map k v=>intro x cs _ h; exact h
 |pool t=>intro x cs _ h; exact h
theorem aI.ren (ρ:Nat→Nat) {q:Tk} {d:DV} (hm:∀ s,s∈mentions d.1→tk' (ρ s)=tk s) (h:aI w I tk q d):aI w I tk' q (d.ren ρ):=by
 rw [DV.M0]
 cases he:(mentions d.1).isEmpty with
 |true=>
  have hn:mentions d.1= []:=List.isEmpty_iff.1 he
  exact h.congr (d:=d) (by rw [hn]; intro s hs; cases hs)
 |false=>
  obtain ⟨t,x⟩:=d
  cases ht:t.bL with
  |true=>
   cases t<;>first|(cases ht; done)|(cases he; done)|skip
   obtain ⟨h1,hp,h2,h3,h4,h5⟩:=h
   simp only [FI,cond_false]
   refine ⟨by rw [sH]; exact h1,by rw [DT]; exact hp,by simpa using h2,by simpa using h3,h4,h5.imp id ?_⟩
   rintro ⟨b,e1,e2,cs,e3,e4,e5⟩
   refine ⟨b,e1,e2,cs,e3,by rw [pY]; exact e4,fun i y hy=> ?_⟩
   rw [List.getElem?_map] at hy
   obtain ⟨z,hz,rfl⟩:=Option.map_eq_some_iff.1 hy
   obtain ⟨c,hc,hv⟩:=e5 i z hz
   exact ⟨c,hc.ren ρ hm,by rw [pY]; exact hv⟩
  |false=>
   obtain ⟨h1,h2,b,cs,h3,h4,h5⟩:=(aI.str ht).1 h
   exact (aI.str ((DT ρ t).trans ht)).2 ⟨by rw [sH]; exact h1,h2,b,cs,h3,h4,h5.ren ρ hm⟩
end Go.Own
set_option linter.unusedVariables false
namespace Go.Own
structure eD (P:Program) (E:Env):Prop where
 ty:∀ T t,E.T T=some t→fO P T t
 bytes:∀ T e i,P.underlying T=some (.slice e)→(E.T T).isSome→P.info? e=some i→i.bytes≤E.B T∧0<E.B T
 mixed:P.follows .mixedOrders=true
 depth:64≤P.depth
 lev:∀ T t,E.T T=some t→t.lev≤64
 uns:∀ T,E.uns T=true→P.underlying T=some .unsafePointer
 up:∀ T u,E.up T=some u→∃ e,P.underlying T=some (.pointer e)∧P.underlyingId e=u
structure View (sv st:St):Prop where
 slot:∀ i,sv.slot i= .dead∨sv.slot i=st.slot i
 box:∀ s d,sv.box s=some d→st.box s=some d
theorem View.refl (st:St):View st st:=⟨fun _=> .inr rfl,fun _ _ h=>h⟩
def wM (tm:Array Value) (d:Option Nat) (v:Value):Array Value:=match d with|some d=>tm.setIfInBounds d v|none=>tm
def aV (C:Cx) (o:Oper) (ds:List Deferred) (st':St) (tm:Array Value) (w:World):Prop:=
 ∃ v w' I' tk',((execOp (Act.eval ⟨tm,ds⟩) o).run C.P w= .ok (.value v) w'∨((execOp (Act.eval ⟨tm,ds⟩) o).run C.P w= .ok .skip w'∧v=undef))∧
  Inv C st' (wM tm o.dst v) w' I' tk'
variable {C:Cx} {E:Env} {w w':World} {I I':Nat→Prop} {st sv:St} {tm:Array Value} {tk tk':aU} {ds:List Deferred} {o:Oper}
theorem DC (st:St) (i:Nat) (h:st.sl.length≤i):st.slot i= .dead:=by
 unfold St.slot; rw [List.getD_eq_getElem?_getD,List.getElem?_eq_none h]; rfl
theorem wG {i:Nat} {v:SV} (h:st.slot i=v) (hv:v≠ .dead):i<st.sl.length:=by
 rcases Nat.lt_or_ge i st.sl.length with h1|h1
 ·exact h1
 ·rw [DC st i h1] at h; exact absurd h.symm hv
theorem View.rep (hV:View sv st) (h:Inv C st tm w I tk) (i:Nat):bf w I tk (sv.slot i) (tm.getD i undef):=by
 rcases hV.slot i with e|e
 ·rw [e]; trivial
 ·rw [e]
  rcases Nat.lt_or_ge i st.sl.length with h1|h1
  ·exact h.slots i h1
  ·rw [DC st i h1]; trivial
theorem fe (hV:View sv st) (h:Inv C st tm w I tk) (x:Operand):bf w I tk (ev sv x) (Act.eval ⟨tm,ds⟩ x):=by
 cases x with
 |tmp i=>
  have hs:=hV.rep h i
  simp only [ev,Act.eval]
  split
  ·trivial
  ·exact hs
 |const v=>
  simp only [ev,Act.eval]
  unfold J4
  split<;>first|(simp [bf,dB,aA,Ty.isAgg,ai,Ty.plain]; done)|trivial
 |global g=>trivial
 |func f=>exact ⟨#[],rfl,rfl,by simp⟩
theorem bf.p {d:DV} {v:Value} (h:bf w I tk (.p d) v):aA w I tk d.1 d.2 v:=h.2
theorem bf.pl {d:DV} {v:Value} (h:bf w I tk (.p d) v):d.1.plain=true:=h.1
theorem pK {k:IntKind} {n:Int} {v:Value}:aA w I tk (.int k) n v↔v= .int k n:=by simp [aA,Ty.isAgg,ai]
theorem qF {b:Bool} {v:Value}:aA w I tk .bool b v↔v= .bool b:=by simp [aA,Ty.isAgg,ai]
theorem sj {s:ByteArray} {v:Value}:aA w I tk .str s v↔v= .string s:=by simp [aA,Ty.isAgg,ai]
theorem zC {s:Nat} {v:Value}:aA w I tk .flt s v↔v= .float .f64 s:=by simp [aA,Ty.isAgg,ai]
theorem dF {k:IntKind} {n:Int} {v:Value}:bf w I tk (.p ⟨.int k,n⟩) v↔v= .int k n:=⟨fun h=>pK.1 h.p,fun h=>⟨rfl,pK.2 h⟩⟩
theorem bO {b:Bool} {v:Value}:bf w I tk (.p ⟨.bool,b⟩) v↔v= .bool b:=⟨fun h=>qF.1 h.p,fun h=>⟨rfl,qF.2 h⟩⟩
theorem ow {b:ByteArray} {v:Value}:bf w I tk (.p ⟨.str,b⟩) v↔v= .string b:=⟨fun h=>sj.1 h.p,fun h=>⟨rfl,sj.2 h⟩⟩
theorem zZ {b:Nat} {v:Value}:bf w I tk (.p ⟨.flt,b⟩) v↔v= .float .f64 b:=⟨fun h=>zC.1 h.p,fun h=>⟨rfl,zC.2 h⟩⟩
theorem aV.v {v:SV} {x:Value} (h:Inv C st tm w I tk) (hd:∀ d,o.dst=some d→d<st.sl.length)
  (hr:(execOp (Act.eval ⟨tm,ds⟩) o).run C.P w= .ok (.value x) w) (hv:bf w I tk v x):
  aV C o ds (Ef.run o.dst ⟨[],some v⟩ st) tm w:=by
 refine ⟨x,w,I,tk,.inl hr,?_⟩
 simp only [Ef.run,aN]
 cases ho:o.dst with
 |none=>exact h
 |some d=>exact h.put (hd d ho) hv
theorem aV.of {ps:List Pm} {v:SV} {x:Value} (hr:(execOp (Act.eval ⟨tm,ds⟩) o).run C.P w= .ok (.value x) w')
  (h:Inv C (aN ps st) tm w' I' tk') (hd:∀ d,o.dst=some d→d<(aN ps st).sl.length) (hv:bf w' I' tk' v x):
  aV C o ds (Ef.run o.dst ⟨ps,some v⟩ st) tm w:=by
 refine ⟨x,w',I',tk',.inl hr,?_⟩
 simp only [Ef.run]
 cases ho:o.dst with
 |none=>exact h
 |some d=>exact h.put (hd d ho) hv
theorem vT (hE:eD C.P E) {T:TypeId} {t:Ty} (h:E.isT T t=true):fO C.P T t:=by
 unfold Env.isT at h
 split at h
 ·rename_i u hu
  have hA:=hE.ty T u hu
  simp only [Bool.or_eq_true,decide_eq_true_eq] at h
  rcases h with rfl|h
  ·exact hA
  ·split at h
   ·rename_i t0
    obtain ⟨hb,e,hu2,_⟩:=hA
    refine ⟨⟨hb.size,?_,hb.agg⟩,e,hu2⟩
    obtain ⟨i,z,h1,h2,h3⟩:=hb.zero
    exact ⟨i,z,h1,h2,h3⟩
   ·cases h
 ·cases h
variable {P:Program}
theorem NR {op:BinOp} {k:IntKind} {a b:Int} {x:DV} (h:SA op k a b=some (true,x)) (T:TypeId) (hne:op≠ .shl∧op≠ .shr):
  ∃ v,(binOp op T (.int k a) (.int k b)).run P w= .ok v w∧bf w I tk (.p x) v:=by
 cases op<;>simp only [SA,Option.some.injEq,Prod.mk.injEq,true_and,reduceCtorEq,Bool.not_eq_true',decide_eq_false_iff_not] at h<;>(try simp at hne)
 case add=>subst h; exact ⟨.int k (k.wrap (a+b)),by simp [binOp,Op.intArith],dF.2 rfl⟩
 case sub=>subst h; exact ⟨.int k (k.wrap (a - b)),by simp [binOp,Op.intArith],dF.2 rfl⟩
 case mul=>subst h; exact ⟨.int k (k.wrap (a*b)),by simp [binOp,Op.intArith],dF.2 rfl⟩
 case quo=>obtain ⟨h0,rfl⟩:=h; exact ⟨.int k (k.wrap (a.tdiv b)),by simp [binOp,Op.intDiv,h0],dF.2 rfl⟩
 case rem=>obtain ⟨h0,rfl⟩:=h; exact ⟨.int k (a.tmod b),by simp [binOp,Op.intDiv,h0],dF.2 rfl⟩
 case and=>subst h; exact ⟨.int k (eU k (fun x y=>x&&& y) a b),by simp [binOp,Op.intBits,eU],dF.2 rfl⟩
 case or=>subst h; exact ⟨.int k (eU k (fun x y=>x||| y) a b),by simp [binOp,Op.intBits,eU],dF.2 rfl⟩
 case xor=>subst h; exact ⟨.int k (eU k (fun x y=>x^^^ y) a b),by simp [binOp,Op.intBits,eU],dF.2 rfl⟩
 case andNot=>subst h; exact ⟨.int k (eU k (fun x y=>x&&& ~~~y) a b),by simp [binOp,Op.intBits,eU],dF.2 rfl⟩
 case eql=>subst h; exact ⟨.bool (a== b),by simp [binOp,Op.intCmp],bO.2 rfl⟩
 case neq=>subst h; exact ⟨.bool (a != b),by simp [binOp,Op.intCmp],bO.2 rfl⟩
 case lss=>subst h; exact ⟨.bool (decide (a<b)),by simp [binOp,Op.intCmp],bO.2 rfl⟩
 case leq=>subst h; exact ⟨.bool (decide (a≤b)),by simp [binOp,Op.intCmp],bO.2 rfl⟩
 case gtr=>subst h; exact ⟨.bool (decide (a>b)),by simp [binOp,Op.intCmp],bO.2 rfl⟩
 case geq=>subst h; exact ⟨.bool (decide (a≥b)),by simp [binOp,Op.intCmp],bO.2 rfl⟩
theorem AA {op:BinOp} {k k':IntKind} {a b:Int} {x:DV} (h:Ee op k a b=some (true,x)) (T:TypeId):
  ∃ v,(binOp op T (.int k a) (.int k' b)).run P w= .ok v w∧bf w I tk (.p x) v:=by
 cases op<;>simp only [Ee,Option.some.injEq,Prod.mk.injEq,reduceCtorEq,Bool.not_eq_true',decide_eq_false_iff_not] at h
 case shl=>obtain ⟨h0,rfl⟩:=h; exact ⟨.int k (k.wrap (a*2^(min b.toNat k.bits))),by simp [binOp,Op.shift,h0],dF.2 rfl⟩
 case shr=>obtain ⟨h0,rfl⟩:=h; exact ⟨.int k (a.fdiv (2^(min b.toNat k.bits))),by simp [binOp,Op.shift,h0],dF.2 rfl⟩
theorem MU {op:BinOp} {a b:ByteArray} {x:DV} (h:RZ op a b=some (true,x)) (T:TypeId):
  ∃ v,(binOp op T (.string a) (.string b)).run P w= .ok v w∧bf w I tk (.p x) v:=by
 cases op<;>simp only [RZ,Option.some.injEq,Prod.mk.injEq,true_and,reduceCtorEq,decide_eq_true_eq] at h
 case add=>
  obtain ⟨h0,rfl⟩:=h
  have hm:¬ (((a.size+b.size:Nat):Int)>IntKind.i64.max):=by
   have:IntKind.i64.max=9223372036854775807:=by decide
   omega
  refine ⟨.string (a++b),?_,ow.2 rfl⟩
  simp only [binOp,Op.stringOp]
  rw [if_neg hm]; rfl
 case eql=>subst h; exact ⟨.bool (a.toList== b.toList),by simp [binOp,Op.stringOp],bO.2 rfl⟩
 case neq=>subst h; exact ⟨.bool (!(a.toList== b.toList)),by simp [binOp,Op.stringOp],bO.2 rfl⟩
 case lss=>subst h; exact ⟨.bool (Op.bytesLess a.toList b.toList),by simp [binOp,Op.stringOp],bO.2 rfl⟩
 case leq=>subst h; exact ⟨.bool (Op.bytesLess a.toList b.toList||a.toList== b.toList),by simp [binOp,Op.stringOp],bO.2 rfl⟩
 case gtr=>subst h; exact ⟨.bool (!(Op.bytesLess a.toList b.toList||a.toList== b.toList)),by simp [binOp,Op.stringOp],bO.2 rfl⟩
 case geq=>subst h; exact ⟨.bool (!(Op.bytesLess a.toList b.toList)),by simp [binOp,Op.stringOp],bO.2 rfl⟩
theorem Og {op:BinOp} {a b:Nat} {x:DV} (h:SH op a b=some (true,x)) (T:TypeId):
  ∃ v,(binOp op T (.float .f64 a) (.float .f64 b)).run P w= .ok v w∧bf w I tk (.p x) v:=by
 have ar:∀ {r:Option Nat} (op:BinOp),Jb r=some (true,x)→(∀ q,r=some q→(Op.floatArith op .f64 a b).run P w= .ok (.float .f64 q) w)→
   ∃ v,(Op.floatArith op .f64 a b).run P w= .ok v w∧bf w I tk (.p x) v:=by
  intro r op h hr
  cases r with
  |none=>simp [Jb] at h
  |some q=>
   simp only [Jb,Option.isSome_some,Option.getD_some,Option.some.injEq,Prod.mk.injEq,true_and] at h
   subst h
   exact ⟨_,hr q rfl,zZ.2 rfl⟩
 cases op<;>simp only [SH,Option.some.injEq,Prod.mk.injEq,true_and,reduceCtorEq] at h
 case add=>simp only [binOp,if_neg (by simp:¬ (FloatKind.f64≠FloatKind.f64))]; exact ar .add h (fun q hq=>by simp [Op.floatArith,hq])
 case sub=>simp only [binOp,if_neg (by simp:¬ (FloatKind.f64≠FloatKind.f64))]; exact ar .sub h (fun q hq=>by simp [Op.floatArith,hq])
 case mul=>simp only [binOp,if_neg (by simp:¬ (FloatKind.f64≠FloatKind.f64))]; exact ar .mul h (fun q hq=>by simp [Op.floatArith,hq])
 case quo=>simp only [binOp,if_neg (by simp:¬ (FloatKind.f64≠FloatKind.f64))]; exact ar .quo h (fun q hq=>by simp [Op.floatArith,hq])
 case eql=>subst h; exact ⟨_,by simp [binOp,Op.floatCmp],bO.2 rfl⟩
 case neq=>subst h; exact ⟨_,by simp [binOp,Op.floatCmp],bO.2 rfl⟩
 case lss=>subst h; exact ⟨_,by simp [binOp,Op.floatCmp],bO.2 rfl⟩
 case leq=>subst h; exact ⟨_,by simp [binOp,Op.floatCmp],bO.2 rfl⟩
 case gtr=>subst h; exact ⟨_,by simp [binOp,Op.floatCmp],bO.2 rfl⟩
 case geq=>subst h; exact ⟨_,by simp [binOp,Op.floatCmp],bO.2 rfl⟩
end Go.Own
namespace Go.Own
variable {P:Program} {E:Env} {w:World} {I:Nat→Prop} {tk:aU}
theorem fO.isAgg {T:TypeId} {t:Ty} (h:fO P T t) (w:World):(Go.isAgg T).run P w= .ok t.isAgg w:=by
 unfold Go.isAgg
 cases t<;>simp only [fO,qD] at h
 case int k=>simp [run_underlying h.2,Ty.isAgg]
 case bool=>simp [run_underlying h.2,Ty.isAgg]
 case str=>simp [run_underlying h.2,Ty.isAgg]
 case flt=>simp [run_underlying h.2,Ty.isAgg]
 case unit=>obtain ⟨_,_,fs,hu,_⟩:=h; simp [run_underlying hu,Ty.isAgg]
 case pair a b=>obtain ⟨_,_,_,fs,hu,_⟩:=h; simp [run_underlying hu,Ty.isAgg]
 case nif=>obtain ⟨_,ms,hu⟩:=h; simp [run_underlying hu,Ty.isAgg]
 case slf=>obtain ⟨_,e,hu⟩:=h; simp [run_underlying hu,Ty.isAgg]
 case mp s k v=>obtain ⟨_,_,a,b,hu,_⟩:=h; simp [run_underlying hu,Ty.isAgg]
 case arr n t=>obtain ⟨_,e,hu,_⟩:=h; simp [run_underlying hu,Ty.isAgg]
 case sl t=>obtain ⟨_,e,hu,_⟩:=h; simp [run_underlying hu,Ty.isAgg]
 case ref t=>obtain ⟨_,e,hu,_⟩:=h; simp [run_underlying hu,Ty.isAgg]
theorem fO.sizeOf {T:TypeId} {t:Ty} (h:fO P T t) (w:World):(Go.sizeOf T).run P w= .ok t.size w:=by
 have hs:=h.base.size
 cases hq:P.info? T with
 |none=>simp [hq] at hs
 |some i=>simp only [hq,Option.map_some,Option.some.injEq] at hs; simp [Go.sizeOf,typeInfo,hq,hs]
theorem fO.one {T:TypeId} {t:Ty} (h:fO P T t) (ha:t.isAgg=false):t.size=1:=by
 cases t<;>first|rfl|cases ha; done|exact h.elim
theorem rO {T:TypeId} {t:Ty} (h:fO P T t.frz) (cs:Array Value) (off:Nat) (x:t.den) (w:World)
  (hc:ai w I tk t x ((cs.toList.drop off).take t.size)):∃ v,(part T cs off).run P w= .ok v w∧aA w I tk t x v:=by
 unfold part
 rw [Sem.run_bind,h.isAgg w,Ty.mr]
 simp only [Result.andThen_ok]
 cases ha:t.isAgg with
 |true=>
  refine ⟨.agg (cs.extract off (off+t.size)),by simp [h.sizeOf w,Ty.fA],?_⟩
  unfold aA
  simp only [ha,if_true]
  refine ⟨_,rfl,?_⟩
  have:(cs.extract off (off+t.size)).toList=(cs.toList.drop off).take t.size:=by
   rw [Array.toList_extract]; simp [List.extract]
  rw [this]; exact hc
 |false=>
  have h1:t.size=1:=by rw [← Ty.fA]; exact h.one (by rw [Ty.mr]; exact ha)
  have hl:=hc.length
  rw [h1] at hl hc
  match hm:(cs.toList.drop off).take 1,hl with
  | [v],_=>
   have hv:cs[off]?=some v:=by
    have:(cs.toList.drop off)[0]?=some v:=by
     have h0:((cs.toList.drop off).take 1)[0]?=some v:=by rw [hm]; rfl
     simpa using h0
    simpa using this
   refine ⟨v,by simp [hv],?_⟩
   unfold aA
   simp only [ha,Bool.false_eq_true,if_false]
   rw [hm] at hc
   exact hc
theorem SQ:∀ {t:Ty},(∀ T,fO P T t→t.frz=t)∧(∀ fs off,fB P fs off t→t.frz=t):=by
 intro t
 induction t with
 |pair a b iha ihb=>
  refine ⟨fun T h=> ?_,fun fs off h=> ?_⟩
  ·obtain ⟨_,_,_,fs,_,_,f,r,_,_,h1,h2⟩:=h
   simp only [Ty.frz,iha.1 _ h1,ihb.2 _ _ h2]
  ·obtain ⟨f,r,_,_,h1,h2⟩:=h
   simp only [Ty.frz,iha.1 _ h1,ihb.2 _ _ h2]
 |arr n t ih=>
  refine ⟨fun T h=> ?_,fun fs off h=>h.elim⟩
  obtain ⟨_,e,_,h1⟩:=h
  simp only [Ty.frz,ih.1 _ h1]
 |mp s k v=>exact ⟨fun T h=>by obtain ⟨_,rfl,_⟩:=h; rfl,fun fs off h=>h.elim⟩
 |unit=>exact ⟨fun _ _=>rfl,fun _ _ _=>rfl⟩
 |eos u=>exact ⟨fun _ _=>rfl,fun _ _ _=>rfl⟩
 |int k=>exact ⟨fun _ _=>rfl,fun _ _ _=>rfl⟩
 |bool=>exact ⟨fun _ _=>rfl,fun _ _ _=>rfl⟩
 |str=>exact ⟨fun _ _=>rfl,fun _ _ _=>rfl⟩
 |flt=>exact ⟨fun _ _=>rfl,fun _ _ _=>rfl⟩
 |sl t=>exact ⟨fun _ _=>rfl,fun _ _ _=>rfl⟩
 |ref t=>exact ⟨fun _ _=>rfl,fun _ _ _=>rfl⟩
 |nif=>exact ⟨fun _ _=>rfl,fun _ _ _=>rfl⟩
 |slf=>exact ⟨fun _ _=>rfl,fun _ _ _=>rfl⟩
 |_=>exact ⟨fun T h=>h.elim,fun fs off h=>h.elim⟩
theorem fO.frz {T:TypeId} {t:Ty} (h:fO P T t):t.frz=t:=SQ.1 T h
theorem Jg:∀ {t:Ty},t.wT=true→(∀ (T:TypeId) (d:Nat),fO P T t→t.lev≤d→P.eqGuardType d T=false)∧
  (∀ (fs:List Field) (off d:Nat),fB P fs off t→t.lev≤d+1→(fs.any fun f=>f.name != "_" &&P.eqGuardType d f.type)=false):=by
 intro t
 induction t with
 |int k=>intro _; exact ⟨fun T d h hd=>by cases d with|zero=>simp [Ty.lev] at hd|succ d=>simp [Program.eqGuardType,h.2],fun fs off d h=>by cases h⟩
 |bool=>intro _; exact ⟨fun T d h hd=>by cases d with|zero=>simp [Ty.lev] at hd|succ d=>simp [Program.eqGuardType,h.2],fun fs off d h=>by cases h⟩
 |str=>intro _; exact ⟨fun T d h hd=>by cases d with|zero=>simp [Ty.lev] at hd|succ d=>simp [Program.eqGuardType,h.2],fun fs off d h=>by cases h⟩
 |unit=>
  intro _
  refine ⟨fun T d h hd=> ?_,fun fs off d h _=> ?_⟩
  ·obtain ⟨_,_,fs,hu,hfs⟩:=h
   cases d with
   |zero=>simp [Ty.lev] at hd
   |succ d=>
    simp only [Program.eqGuardType,hu]
    rw [← Array.any_toList,hfs]; rfl
  ·have:fs= []:=h
   subst this; rfl
 |eos u=>
  intro _
  refine ⟨fun T d h hd=>h.elim,fun fs off d h _=> ?_⟩
  have:fs= []:=h
  subst this; rfl
 |pair a b iha ihb=>
  intro hk
  simp only [Ty.wT,Bool.and_eq_true] at hk
  have iha:=iha hk.1
  have ihb:=ihb hk.2
  have hf:∀ (f:Field) (r:List Field) (n d:Nat),fO P f.type a→fB P r n b→(Ty.pair a b).lev≤d+1→((f::r).any fun f=>f.name != "_" &&P.eqGuardType d f.type)=false:=by
   intro f r n d h1 h2 hd
   simp only [Ty.lev] at hd
   rw [List.any_cons,iha.1 f.type d h1 (by omega),ihb.2 r n d h2 (by omega)]
   simp
  refine ⟨fun T d h hd=> ?_,fun fs off d h hd=> ?_⟩
  ·obtain ⟨_,_,_,fs,hu,_,f,r,hfs,_,h1,h2⟩:=h
   cases d with
   |zero=>simp only [Ty.lev] at hd; omega
   |succ d=>
    simp only [Program.eqGuardType,hu]
    rw [← Array.any_toList,hfs]
    exact hf f r _ d h1 h2 hd
  ·obtain ⟨f,r,rfl,_,h1,h2⟩:=h
   exact hf f r _ d h1 h2 hd
 |arr n t ih=>
  intro hk
  simp only [Ty.wT] at hk
  refine ⟨fun T d h hd=> ?_,fun fs off d h=>by cases h⟩
  obtain ⟨_,e,hu,he⟩:=h
  cases d with
  |zero=>simp [Ty.lev] at hd
  |succ d=>simp only [Program.eqGuardType,hu]; exact (ih hk).1 e d he (by simp only [Ty.lev] at hd; omega)
 |_=>intro hk; cases hk
end Go.Own
namespace Go.Own
variable {P:Program} {E:Env} {w:World} {I:Nat→Prop} {tk:aU}
theorem forIn_eq (w:World) (body:Nat→Option Bool×Unit→Sem (ForInStep (Option Bool×Unit))) (g:Nat→Bool):∀ (l:List Nat),
  (∀ i∈l,∀ s,(body i s).run P w= .ok (if g i=true then .yield (none,()) else .done (some false,())) w)→
  (forIn l (none,()) body:Sem (Option Bool×Unit)).run P w= .ok (if l.all g then (none,()) else (some false,())) w:=by
 intro l
 induction l with
 |nil=>intro _; simp
 |cons i l ih=>
  intro h
  rw [List.forIn_cons,Sem.run_bind,h i (by simp)]
  simp only [Result.andThen_ok]
  cases hg:g i with
  |false=>simp [hg]
  |true=>
   simp only [if_true]
   rw [ih fun j hj=>h j (by simp [hj])]
   simp [hg]
theorem Oi (n:Nat) (q:Nat→Option Bool) (r:Bool)
  (h:(List.range n).foldr (fun i r=>match q i,r with|some x,some y=>some (x&&y)|_,_=>none) (some true)=some r):
  (∀ i,i<n→(q i).isSome)∧r=(List.range n).all fun i=>(q i).getD false:=by
 have key:∀ (l:List Nat) (r:Bool),l.foldr (fun i r=>match q i,r with|some x,some y=>some (x&&y)|_,_=>none) (some true)=some r→
   (∀ i∈l,(q i).isSome)∧r=l.all fun i=>(q i).getD false:=by
  intro l
  induction l with
  |nil=>intro r h; simp at h; simp [← h]
  |cons i l ih=>
   intro r h
   simp only [List.foldr_cons] at h
   split at h
   ·rename_i x y hx hy
    simp only [Option.some.injEq] at h
    obtain ⟨h1,h2⟩:=ih y hy
    refine ⟨?_,by simp [← h,hx,h2]⟩
    intro j hj
    simp only [List.mem_cons] at hj
    rcases hj with rfl|hj
    ·simp [hx]
    ·exact h1 j hj
   ·cases h
 obtain ⟨h1,h2⟩:=key _ _ h
 exact ⟨fun i hi=>h1 i (by simpa using hi),h2⟩
theorem SI:∀ {t:Ty},(∀ (T:TypeId) (d:Nat) (v1 v2:Value) (x y:t.den) (r:Bool),fO P T t→t.lev≤d→aA w I tk t x v1→aA w I tk t y v2→eqT t x y=some r→
   (Op.equalIn d T v1 v2).run P w= .ok r w)∧
  (∀ (fs:List Field) (off d:Nat) (as bs:Array Value) (x y:t.den) (r:Bool),fB P fs off t→t.lev≤d+1→(∀ f∈fs,f.name≠ "_")→
   ai w I tk t x (as.toList.drop off)→ai w I tk t y (bs.toList.drop off)→eqT t x y=some r→(Op.eqFields d as bs fs).run P w= .ok r w):=by
 intro t
 induction t with
 |int k=>
  refine ⟨fun T d v1 v2 x y r h hd h1 h2 he=> ?_,fun fs off d as bs x y r h=>by cases h⟩
  rw [pK] at h1 h2; subst h1; subst h2
  simp only [eqT,Option.some.injEq] at he; subst he
  cases d with
  |zero=>simp [Ty.lev] at hd
  |succ d=>rw [run_equalIn_int w d T k k x y h.2]; congr 1
 |bool=>
  refine ⟨fun T d v1 v2 x y r h hd h1 h2 he=> ?_,fun fs off d as bs x y r h=>by cases h⟩
  rw [qF] at h1 h2; subst h1; subst h2
  simp only [eqT,Option.some.injEq] at he; subst he
  cases d with
  |zero=>simp [Ty.lev] at hd
  |succ d=>exact run_equalIn_bool w d T x y h.2
 |str=>
  refine ⟨fun T d v1 v2 x y r h hd h1 h2 he=> ?_,fun fs off d as bs x y r h=>by cases h⟩
  rw [sj] at h1 h2; subst h1; subst h2
  simp only [eqT,Option.some.injEq] at he; subst he
  cases d with
  |zero=>simp [Ty.lev] at hd
  |succ d=>rw [run_equalIn_string w d T x y h.2,beq_toListBytes]
 |eos u=>
  refine ⟨fun T d v1 v2 x y r h=>h.elim,fun fs off d as bs x y r h _ _ _ _ he=> ?_⟩
  have:fs= []:=h
  subst this
  simp only [eqT,Option.some.injEq] at he; subst he
  simp [Op.eqFields]
 |unit=>
  refine ⟨fun T d v1 v2 x y r h hd h1 h2 he=> ?_,fun fs off d as bs x y r h _ _ _ _ he=> ?_⟩
  ·obtain ⟨_,hp,fs,hu,hfs⟩:=h
   unfold aA at h1 h2
   simp only [Ty.isAgg,if_true] at h1 h2
   obtain ⟨as,rfl,h1⟩:=h1
   obtain ⟨bs,rfl,h2⟩:=h2
   simp only [eqT,Option.some.injEq] at he; subst he
   have hF:P.fieldsOf T=fs:=by simp [Program.fieldsOf,hu]
   cases d with
   |zero=>simp [Ty.lev] at hd
   |succ d=>rw [run_equalIn_struct w d T as bs (by rw [hF,hu]) hp,hF,hfs]; simp [Op.eqFields]
  ·have:fs= []:=h
   subst this
   simp only [eqT,Option.some.injEq] at he; subst he
   simp [Op.eqFields]
 |pair a b iha ihb=>
  have hf:∀ (f:Field) (rs:List Field) (off d:Nat) (as bs:Array Value) (x y:(Ty.pair a b).den) (r:Bool),f.offset=off→fO P f.type a→fB P rs (off+a.size) b→(Ty.pair a b).lev≤d+1→
    f.name≠ "_" →(∀ f∈rs,f.name≠ "_")→ai w I tk (.pair a b) x (as.toList.drop off)→ai w I tk (.pair a b) y (bs.toList.drop off)→eqT (.pair a b) x y=some r→
    (Op.eqFields d as bs (f::rs)).run P w= .ok r w:=by
   intro f rs off d as bs x y r ho h1 h2 hd hn hns hx hy he
   simp only [Ty.lev] at hd
   obtain ⟨c1,c2,e1,hx1,hx2⟩:=hx
   obtain ⟨c3,c4,e2,hy1,hy2⟩:=hy
   have l1:=hx1.length
   have l3:=hy1.length
   have t1:(as.toList.drop off).take a.size=c1:=by rw [e1,← l1]; simp
   have t3:(bs.toList.drop off).take a.size=c3:=by rw [e2,← l3]; simp
   have t2:as.toList.drop (off+a.size)=c2:=by rw [← List.drop_drop,e1,← l1]; simp
   have t4:bs.toList.drop (off+a.size)=c4:=by rw [← List.drop_drop,e2,← l3]; simp
   obtain ⟨v1,hv1,hr1⟩:=rO (t:=a) (h1.frz.symm ▸ h1) as off x.1 w (by rw [t1]; exact hx1)
   obtain ⟨v2,hv2,hr2⟩:=rO (t:=a) (h1.frz.symm ▸ h1) bs off y.1 w (by rw [t3]; exact hy1)
   simp only [eqT] at he
   split at he
   ·rename_i p q hp hq
    simp only [Option.some.injEq] at he
    have e3:=iha.1 f.type d v1 v2 x.1 y.1 p h1 (by omega) hr1 hr2 hp
    have e4:=ihb.2 rs (off+a.size) d as bs x.2 y.2 q h2 (by omega) hns (by rw [t2]; exact hx2) (by rw [t4]; exact hy2) hq
    simp only [Op.eqFields,hn,ne_eq,not_false_eq_true,if_true,Sem.run_bind,ho,hv1,hv2,e3,Result.andThen_ok,Sem.run_ite,e4,Sem.run_pure]
    cases p<;>simp_all
   ·cases he
  refine ⟨fun T d v1 v2 x y r h hd h1 h2 he=> ?_,fun fs off d as bs x y r h hd hn hx hy he=> ?_⟩
  ·obtain ⟨_,hp,_,fs,hu,hnm,f,rs,hfs,ho,hF1,hF2⟩:=h
   unfold aA at h1 h2
   simp only [Ty.isAgg,if_true] at h1 h2
   obtain ⟨as,rfl,h1⟩:=h1
   obtain ⟨bs,rfl,h2⟩:=h2
   have hF:P.fieldsOf T=fs:=by simp [Program.fieldsOf,hu]
   cases d with
   |zero=>simp only [Ty.lev] at hd; omega
   |succ d=>
    rw [run_equalIn_struct w d T as bs (by rw [hF,hu]) hp,hF,hfs]
    rw [hfs] at hnm
    refine hf f rs 0 d as bs x y r ho hF1 ?_ hd (hnm f (by simp)) (fun g hg=>hnm g (by simp [hg])) ?_ ?_ he
    ·simpa [fB] using hF2
    ·simpa using h1
    ·simpa using h2
  ·obtain ⟨f,rs,rfl,ho,hF1,hF2⟩:=h
   exact hf f rs off d as bs x y r ho hF1 hF2 hd (hn f (by simp)) (fun g hg=>hn g (by simp [hg])) hx hy he
 |arr n t ih=>
  refine ⟨fun T d v1 v2 x y r h hd h1 h2 he=> ?_,fun fs off d as bs x y r h=>by cases h⟩
  obtain ⟨_,e,hu,hT0⟩:=h
  have hT:fO P e t:=hT0
  unfold aA at h1 h2
  simp only [Ty.isAgg,if_true] at h1 h2
  obtain ⟨as,rfl,hl1,_,h1⟩:=h1
  obtain ⟨bs,rfl,hl2,_,h2⟩:=h2
  simp only [eqT] at he
  obtain ⟨hs,rfl⟩:=Oi n _ r he
  cases d with
  |zero=>simp [Ty.lev] at hd
  |succ d=>
   simp only [Ty.lev] at hd
   have hstep:∀ i,i<n→((do let a ← part e as (i*t.size); let b ← part e bs (i*t.size); Op.equalIn d e a b:Sem Bool)).run P w=
     .ok ((eqT t (List.getD x i t.dflt) (List.getD y i t.dflt)).getD false) w:=by
    intro i hi
    have hxi:x[i]?=some (List.getD x i t.dflt):=by
     rw [List.getD_eq_getElem?_getD,List.getElem?_eq_getElem (by omega)]; rfl
    have hyi:y[i]?=some (List.getD y i t.dflt):=by
     rw [List.getD_eq_getElem?_getD,List.getElem?_eq_getElem (by omega)]; rfl
    obtain ⟨a,ha,hra⟩:=rO (t:=t) (hT.frz.symm ▸ hT) as (i*t.size) _ w (h1 i _ hxi)
    obtain ⟨b,hb,hrb⟩:=rO (t:=t) (hT.frz.symm ▸ hT) bs (i*t.size) _ w (h2 i _ hyi)
    obtain ⟨q,hq⟩:=Option.isSome_iff_exists.1 (hs i hi)
    simp only [Sem.run_bind,ha,hb,Result.andThen_ok]
    rw [ih.1 e d a b _ _ q hT (by omega) hra hrb hq,hq]; rfl
   simp only [Op.equalIn,Sem.run_bind,run_underlying hu,Result.andThen_ok,hT.sizeOf w]
   rw [Std.Legacy.Range.forIn_eq_forIn_range',forIn_eq w _ (fun i=>(eqT t (List.getD x i t.dflt) (List.getD y i t.dflt)).getD false)]
   ·simp only [Result.andThen_ok]
    have hr:List.range' 0 (Std.Legacy.Range.size [:n]) 1=List.range n:=by
     simp [Std.Legacy.Range.size,List.range_eq_range']
    rw [hr]
    generalize (List.range n).all (fun i=>(eqT t (List.getD x i t.dflt) (List.getD y i t.dflt)).getD false)=q
    cases q<;>rfl
   ·intro i hi s
    have hi':i<n:=by simpa [Std.Legacy.Range.size] using hi
    have hst:=hstep i hi'
    generalize (eqT t (List.getD x i t.dflt) (List.getD y i t.dflt)).getD false=q at hst ⊢
    have hb:∀ (f:Bool→Sem (ForInStep (Option Bool×Unit))),((do let a ← part e as (i*t.size); let b ← part e bs (i*t.size); let r ← Op.equalIn d e a b; f r:Sem _)).run P w=(f q).run P w:=by
     intro f
     have h0:(do let a ← part e as (i*t.size); let b ← part e bs (i*t.size); let r ← Op.equalIn d e a b; f r:Sem _)=
       (do let a ← part e as (i*t.size); let b ← part e bs (i*t.size); Op.equalIn d e a b:Sem Bool)>>= f:=by simp only [bind_assoc]
     rw [h0,Sem.run_bind,hst]; rfl
    rw [hb]
    cases q<;>rfl
 |_=>exact ⟨fun T d v1 v2 x y r h hd h1 h2 he=>by simp [eqT] at he,fun fs off d as bs x y r h=>by cases h⟩
end Go.Own
