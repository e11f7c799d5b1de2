/- What is proved: the evaluator of the translated code, and that it is sound, part 13. Conditions: those that each theorem names. -/
import Derived.Test.YtnighkkdmgmcnaaGreatW12
set_option linter.unusedVariables false
set_option linter.unusedSimpArgs false
set_option linter.unusedVariables false
namespace Go.Own
variable {C:Cx} {P:Program} {E:Env} {w w' w2:World} {I I' I1 I2:Nat→Prop} {st sv st':St} {tm:Array Value} {tk tk':aP} {ds:List Deferred} {o:Oper} {R:Type}
theorem LX (tm:Array Value) (i:Nat):tm.setIfInBounds i (tm.getD i undef)=tm:=by
 apply Array.ext'
 rw [Array.toList_setIfInBounds]
 apply List.ext_getElem?
 intro j
 rw [List.getElem?_set]
 split
 ·rename_i hij
  subst hij
  split
  ·rename_i h
   have h':i<tm.size:=by simpa using h
   simp [Array.getD,h']
  ·rename_i h
   rw [List.getElem?_eq_none (by omega)]
 ·rfl
theorem Inv.tell (h:Inv C st tm w I tk) {i:Nat} (hi:i<st.sl.length) {s:SV} (hs:aU w I tk s (tm.getD i undef)):Inv C {st with sl:=st.sl.set i s} tm w I tk:=by
 have:=h.put hi hs
 rwa [LX] at this
theorem Cy (self:Nat):∀ {u t:Ty} {x:t.den} {st:St} {tk:aP} {cs:List Value},Inv C st tm w I tk→ai w I tk t x cs→((coT self u t x).1.flatMap Pm.tc).Nodup→(∀ s∈(coT self u t x).1.flatMap Pm.tc,s∉self::mentions t)→
  ((coT self u t x).1.all fun p=>match p with| .kill s=>Nat.blt s 1000000| .ins _ ⟨.dyn t,_⟩=>t.plain|_=>false)=true→
  ∃ tk',Inv C (aK (coT self u t x).1 st) tm w I tk'∧ai w I tk' (coT self u t x).2.1 (coT self u t x).2.2 cs∧(coT self u t x).2.1.frz=t.frz∧(t.bE=false→(coT self u t x).2.1.bE=false)∧
   (∀ r,r∉(coT self u t x).1.flatMap Pm.tc→tk' r=tk r)∧(∀ s∈mentions (coT self u t x).2.1,s∈self::mentions t∨s∈(coT self u t x).1.flatMap Pm.tc):=by
 intro u
 have same:∀ {t:Ty} {x:t.den} {st:St} {tk:aP} {cs:List Value},Inv C st tm w I tk→ai w I tk t x cs→∃ tk',Inv C (aK [] st) tm w I tk'∧ai w I tk' t x cs∧t.frz=t.frz∧(t.bE=false→t.bE=false)∧
   (∀ r,r∉([]:List Pm).flatMap Pm.tc→tk' r=tk r)∧(∀ s∈mentions t,s∈self::mentions t∨s∈([]:List Pm).flatMap Pm.tc):=
  fun h hc=>⟨_,h,hc,rfl,fun h=>h,fun _ _=>rfl,fun s hs=> .inl (List.mem_cons_of_mem _ hs)⟩
 induction u with
 |pair a b iha ihb=>
  intro t x st tk cs h hc hnd hdj hal
  cases t with
  |pair c d=>
   obtain ⟨c1,c2,rfl,h1,h2⟩:=hc
   simp only [coT,List.flatMap_append,List.all_append,Bool.and_eq_true] at hnd hdj hal ⊢
   obtain ⟨n1,n2,n3⟩:=List.nodup_append.1 hnd
   have d1:∀ s∈(coT self a c x.1).1.flatMap Pm.tc,s∉self::mentions c:=fun s hs hm=>hdj s (List.mem_append_left _ hs) (by
    rcases List.mem_cons.1 hm with rfl|hm
    ·exact List.mem_cons_self
    ·exact List.mem_cons_of_mem _ (List.mem_append_left _ hm))
   have d2:∀ s∈(coT self b d x.2).1.flatMap Pm.tc,s∉self::mentions d:=fun s hs hm=>hdj s (List.mem_append_right _ hs) (by
    rcases List.mem_cons.1 hm with rfl|hm
    ·exact List.mem_cons_self
    ·exact List.mem_cons_of_mem _ (List.mem_append_right _ hm))
   obtain ⟨tk1,i1,g1,f1,t1,e1,m1⟩:=iha h h1 n1 d1 hal.1
   have h2':ai w I tk1 d x.2 c2:=h2.congr fun s hs=>e1 s fun hm=>hdj s (List.mem_append_left _ hm) (List.mem_cons_of_mem _ (List.mem_append_right _ hs))
   obtain ⟨tk2,i2,g2,f2,t2,e2,m2⟩:=ihb i1 h2' n2 d2 hal.2
   refine ⟨tk2,by rw [cB]; exact i2,⟨c1,c2,rfl,g1.congr fun s hs=>e2 s fun hm=> ?_,g2⟩,by simp only [Ty.frz,f1,f2],fun _=>rfl,fun r hr=> ?_,fun s hs=> ?_⟩
   ·rcases m1 s hs with h3|h3
    ·rcases List.mem_cons.1 h3 with rfl|h3
     ·exact hdj s (List.mem_append_right _ hm) List.mem_cons_self
     ·exact hdj s (List.mem_append_right _ hm) (List.mem_cons_of_mem _ (List.mem_append_left _ h3))
    ·exact n3 s h3 s hm rfl
   ·rw [List.mem_append,not_or] at hr
    rw [e2 r hr.2,e1 r hr.1]
   ·simp only [mentions,List.mem_append] at hs
    rcases hs with hs|hs
    ·rcases m1 s hs with h3|h3
     ·rcases List.mem_cons.1 h3 with rfl|h3
      ·exact .inl List.mem_cons_self
      ·exact .inl (List.mem_cons_of_mem _ (List.mem_append_left _ h3))
     ·exact .inr (List.mem_append_left _ h3)
    ·rcases m2 s hs with h3|h3
     ·rcases List.mem_cons.1 h3 with rfl|h3
      ·exact .inl List.mem_cons_self
      ·exact .inl (List.mem_cons_of_mem _ (List.mem_append_right _ h3))
     ·exact .inr (List.mem_append_right _ h3)
  |_=>exact same h hc
 |sl a=>
  intro t x st tk cs h hc hnd hdj hal
  cases t with
  |nsl t=>
   have hc':cs= [.slice none 0 0]:=hc
   subst hc'
   exact ⟨tk,h,⟨none,0,rfl,Nat.le_refl _,.inl rfl⟩,rfl,fun _=>rfl,fun _ _=>rfl,fun s hs=>by cases hs⟩
  |_=>exact same h hc
 |vw s a=>
  intro t x st tk cs h hc hnd hdj hal
  cases t with
  |nsl t=>
   have hc':cs= [.slice none 0 0]:=hc
   subst hc'
   simp only [coT,kF,List.all_cons,Bool.and_eq_true,List.all_nil,Bool.and_true] at hal
   have hlt:s<1000000:=Nat.le_of_ble_eq_true hal.1
   obtain ⟨tk',h1,⟨q,h2,h3,h4⟩,h5⟩:=h.Hy (d:=s) (t:=t) (fun j=>by unfold site; omega) hal.2
   refine ⟨tk',h1,⟨q,h2,h3,by rw [h4]⟩,rfl,fun _=>rfl,fun r hr=>h5 r fun e=>hr (by simp [coT,kF,Pm.tc,e]),fun r hr=> .inr ?_⟩
   simp only [coT,mentions,List.mem_singleton] at hr
   subst hr
   simp [coT,kF,Pm.tc]
  |_=>exact same h hc
 |sf s a pa=>
  intro t x st tk cs h hc hnd hdj hal
  cases t with
  |slf=>
   have hc':cs= [.pointer none]:=hc
   subst hc'
   exact ⟨tk,h,.inl ⟨rfl,rfl⟩,rfl,fun _=>rfl,fun _ _=>rfl,fun r hr=> .inl (by simpa [coT,mentions] using hr)⟩
  |_=>exact same h hc
 |dyn u ih=>
  intro t x st tk cs h hc hnd hdj hal
  cases t<;>first|exact hc.elim|(cases u<;>exact same h hc)
 |_=>intro t x st tk cs h hc hnd hdj hal; exact same h hc
end Go.Own
set_option linter.unusedVariables false
namespace Go.Own
variable {C:Cx} {P:Program} {E:Env} {w w' w2:World} {I I' I1 I2:Nat→Prop} {st sv st':St} {tm:Array Value} {tk tk':aP} {ds:List Deferred} {o:Oper} {R:Type}
theorem rP {av:List Nat} {ps:List Pm} (h:uV av ps=true):(ps.flatMap Pm.tc).Nodup∧(∀ s∈ps.flatMap Pm.tc,s∉av)∧(ps.all fun p=>match p with| .kill s=>Nat.blt s 1000000| .ins _ ⟨.dyn t,_⟩=>t.plain|_=>false)=true:=by
 unfold uV at h
 simp only [Bool.and_eq_true] at h
 exact ⟨vv h.1.1,ig h.1.2,h.2⟩
theorem PD {self:Nat} {u:Ty} {d:DV} {q:Tk} (htop:d.1.bE=true) (hr:aH w I tk q d):∃ d',coT self u d.1 d.2=([],d')∧aH w I tk q d':=by
 obtain ⟨dt,dx⟩:=d
 have same:coT self u dt dx=([],⟨dt,dx⟩)→∃ d',coT self u dt dx=([],d')∧aH w I tk q d':=fun h=>⟨_,h,hr⟩
 cases dt<;>first|(cases htop; done)|skip
 ·rename_i dt
  cases u<;>first|exact same rfl|skip
  rename_i u
  cases u<;>first|exact same rfl|skip
  rename_i p u
  cases dt<;>first|exact same rfl|skip
  rename_i v
  cases hc:(decide (u=v)&&dx.2.isEmpty) with
  |false=>exact same (by simp only [coT]; rw [hc]; rfl)
  |true=>
   refine ⟨⟨.dyn (.rid p u),(dx.1,[])⟩,by simp only [coT]; rw [hc]; rfl,?_⟩
   simp only [Bool.and_eq_true,decide_eq_true_eq,List.isEmpty_iff] at hc
   obtain ⟨rfl,he⟩:=hc
   obtain ⟨h1,h2,h3,h4,h5,h6⟩:=hr
   refine ⟨?_,rfl,by rw [h3,he]; rfl,Nat.zero_le _,h5,h6.imp id ?_⟩
   ·rw [h1]; simp only [Ty.frz]
   ·rintro ⟨b,e1,e2,cs,e3,e4,e5⟩
    exact ⟨b,e1,e2,cs,e3,e4,fun i x hx=>by simp at hx⟩
 ·cases u<;>first|exact same rfl|(rename_i u; cases u<;>exact same rfl)
 ·cases u<;>first|exact same rfl|(rename_i u; cases u<;>exact same rfl)
theorem CB:∀ {ps:List Pm} {st:St} {a:Nat} {d:DV},(ps.all fun p=>match p with| .kill s=>Nat.blt s 1000000| .ins _ ⟨.dyn t,_⟩=>t.plain|_=>false)=true→st.box a=some d→∃ d',(aK ps st).box a=some d'
 | [],st,a,d,_,h=>⟨d,h⟩
 |p::ps,st,a,d,ha,h=>by
  simp only [List.all_cons,Bool.and_eq_true] at ha
  have:∃ d',(p.run st).box a=some d':=by
   rw [r9,h]
   cases p with
   |kill s=>exact ⟨_,rfl⟩
   |ins s e=>
    simp only [jm]
    split
    ·exact ⟨_,rfl⟩
    ·exact ⟨_,rfl⟩
   |set j u=>exact ⟨_,rfl⟩
   |frz s c=>exact absurd ha.1 (by simp)
   |del s=>exact absurd ha.1 (by simp)
  obtain ⟨d',h'⟩:=this
  exact CB (ps:=ps) (st:=p.run st) ha.2 h'
theorem K9 {i:Nat} {s:Sh} {ps:List Pm} (h:Inv C st tm w I tk) (hi:i<st.sl.length) (hc:coS st i s=some ps):∃ I' tk',Inv C (aK ps st) tm w I' tk':=by
 have nil:some []=some ps→∃ I' tk',Inv C (aK ps st) tm w I' tk':=by
  intro e; cases e; exact ⟨I,tk,h⟩
 unfold coS at hc
 split at hc
 ·split at hc
  ·exact nil hc
  ·obtain ⟨r,hr,rfl⟩:=Option.map_eq_some_iff.1 hc
   obtain ⟨fs,d⟩:=r
   obtain ⟨I',tk',hF,h1,h2⟩:=tK (View.refl st) h (h.slots i hi) hr
   refine ⟨I',tk',?_⟩
   rw [cB]
   exact hF.inv.tell (by rw [bT]; exact hi) (s:= .p d) ⟨h1,h2⟩
 ·rename_i t
  split at hc
  ·rename_i d hd
   split at hc
   ·rename_i fs hfs
    split at hc
    ·rename_i d' hd'
     cases hok:uV (0::mentions d'.1) (coT 0 t d'.1 d'.2).1 with
     |false=>rw [hok] at hc; cases hc
     |true=>
     rw [hok] at hc
     simp only [cond_true,Option.some.injEq] at hc
     subst hc
     obtain ⟨I',tk',hF⟩:=pM (View.refl st) h hfs
     have hsl:=hF.inv.slots i (by rw [bT]; exact hi)
     rw [hd'] at hsl
     obtain ⟨n1,n2,n3⟩:=rP hok
     obtain ⟨ht,hv⟩:=hsl
     have go:∀ {cs:List Value},ai w I' tk' d'.1 d'.2 cs→(∀ {tk2:aP},ai w I' tk2 (coT 0 t d'.1 d'.2).2.1 (coT 0 t d'.1 d'.2).2.2 cs→(coT 0 t d'.1 d'.2).2.1.frz=d'.1.frz→aA w I' tk2 (coT 0 t d'.1 d'.2).2.1 (coT 0 t d'.1 d'.2).2.2 (tm.getD i undef))→
       ∃ I' tk',Inv C (aK (fs++(coT 0 t d'.1 d'.2).1++ [.set i (.sd (coT 0 t d'.1 d'.2).2)]) st) tm w I' tk':=by
      intro cs hcs hval
      obtain ⟨tk2,g1,g2,g3,g4,g5,g6⟩:=Cy 0 (u:=t) hF.inv hcs n1 n2 n3
      refine ⟨I',tk2,?_⟩
      rw [cB,cB]
      exact g1.tell (by rw [bT,bT]; exact hi) (s:= .sd (coT 0 t d'.1 d'.2).2) ⟨g4 ht,hval g2 g3⟩
     unfold aA at hv
     split at hv
     ·rename_i hag
      obtain ⟨cs,e1,hv⟩:=hv
      refine go hv fun {tk2} hcs hfr=> ?_
      unfold aA
      rw [if_pos (by rw [iQ hfr]; exact hag)]
      exact ⟨cs,e1,hcs⟩
     ·rename_i hag
      refine go hv fun {tk2} hcs hfr=> ?_
      unfold aA
      rw [if_neg (by rw [iQ hfr]; exact hag)]
      exact hcs
    ·cases hc
   ·cases hc
  ·cases hc
 ·rename_i b t
  split at hc
  ·rename_i hs
   cases hok:uV [] (kF b ⟨.dyn t,(true,[])⟩) with
   |false=>rw [hok] at hc; cases hc
   |true=>
   rw [hok] at hc
   simp only [cond_true,Option.some.injEq] at hc
   subst hc
   obtain ⟨_,_,n3⟩:=rP hok
   simp only [kF,List.all_cons,Bool.and_eq_true,List.all_nil,Bool.and_true] at n3
   have hlt:b<1000000:=Nat.le_of_ble_eq_true n3.1
   obtain ⟨tk',h1,⟨q,h2,h3,h4⟩,h5⟩:=h.Hy (d:=b) (t:=t) (fun j=>by unfold site; omega) n3.2
   have hsl:=h.slots i hi
   rw [hs] at hsl
   have e:tm.getD i undef= .slice none 0 0:=hsl
   refine ⟨I,tk',?_⟩
   rw [cB]
   exact h1.tell (by rw [bT]; exact hi) (s:= .va b t) ⟨q,h2,h3,by rw [e,h4]⟩
  ·exact nil hc
 ·rename_i b t pa
  split at hc
  ·rename_i hs
   cases hok:uV [] (kF b ⟨.dyn t,(true,[])⟩) with
   |false=>rw [hok] at hc; cases hc
   |true=>
   rw [hok] at hc
   simp only [cond_true,Option.some.injEq] at hc
   subst hc
   obtain ⟨_,_,n3⟩:=rP hok
   simp only [kF,List.all_cons,Bool.and_eq_true,List.all_nil,Bool.and_true] at n3
   have hlt:b<1000000:=Nat.le_of_ble_eq_true n3.1
   obtain ⟨tk',h1,⟨q,h2,h3,h4⟩,h5⟩:=h.Hy (d:=b) (t:=t) (fun j=>by unfold site; omega) n3.2
   have hsl:=h.slots i hi
   rw [hs] at hsl
   have e:tm.getD i undef= .slice none 0 0:=hsl
   refine ⟨I,tk',?_⟩
   rw [cB]
   unfold Tk.hdr at h4
   simp only [Value.slice.injEq] at h4
   obtain ⟨k1,k2,k3⟩:=h4
   refine h1.tell (by rw [bT]; exact hi) (s:= .vs b t [] 0 0) ⟨q,h2,.inl ⟨rfl,h3,⟨by omega,by omega⟩,none,by rw [e,k3],fun hq=>by omega,by simp [k1]⟩⟩
  ·rename_i a u hs
   split at hc
   ·rename_i u' x hbx
    simp only [Option.some.injEq] at hc
    subst hc
    have hsl:=h.slots i hi
    rw [hs] at hsl
    obtain ⟨q,h1,h2,h3⟩:=hsl
    obtain ⟨q',h4,h5⟩:=h.boxes a _ hbx
    rw [h1] at h4; cases h4
    obtain ⟨-,-,b3,b4,-,-⟩:=h5
    refine ⟨I,tk,?_⟩
    refine h.tell hi (s:= .vs a u [] 0 x.2.length) ⟨q,h1,.inl ⟨rfl,h2,⟨by omega,by omega⟩,q.ad,by rw [h3]; unfold Tk.hdr; rw [b3]; rfl,fun hq=> ?_,Iff.rfl⟩⟩
    cases q.ad with
    |none=>rfl
    |some ad=>simp [Addr.add]
   ·exact nil hc
  ·exact nil hc
 ·exact nil hc
theorem IG:∀ {sh:List (Nat×Sh)} {st:St} {I:Nat→Prop} {tk:aP} {ps:List Pm},Inv C st tm w I tk→(∀ p∈sh,p.1<st.sl.length)→PG st sh=some ps→∃ I' tk',Inv C (aK ps st) tm w I' tk':=by
 intro sh
 induction sh with
 |nil=>intro st I tk ps h _ hc; cases hc; exact ⟨I,tk,h⟩
 |cons p sh ih=>
  obtain ⟨i,s⟩:=p
  intro st I tk ps h hl hc
  simp only [PG] at hc
  split at hc
  ·rename_i ps1 h1
   obtain ⟨qs,hq,rfl⟩:=Option.map_eq_some_iff.1 hc
   obtain ⟨I1,tk1,h2⟩:=K9 h (hl (i,s) (by simp)) h1
   obtain ⟨I2,tk2,h3⟩:=ih h2 (fun p hp=>by rw [bT]; exact hl p (by simp [hp])) hq
   exact ⟨I2,tk2,by rw [cB]; exact h3⟩
  ·cases hc
theorem II:∀ {bx:List (Nat×Ty)} {st:St} {I:Nat→Prop} {tk:aP} {m m':Mt} {ps:List Pm},Inv C st tm w I tk→PI st bx m=some (ps,m')→∃ I' tk',Inv C (aK ps st) tm w I' tk':=by
 intro bx
 induction bx with
 |nil=>intro st I tk m m' ps h hc; cases hc; exact ⟨I,tk,h⟩
 |cons p bx ih=>
  obtain ⟨b,t⟩:=p
  intro st I tk m m' ps h hc
  simp only [PI] at hc
  split at hc
  ·rename_i a ha
   split at hc
   ·rename_i d0 hd0
    split at hc
    ·rename_i fs hfs
     split at hc
     ·rename_i d hd
      cases hok:uV (a::mentions d.1) (coT a t d.1 d.2).1 with
      |false=>rw [hok] at hc; cases hc
      |true=>
      rw [hok] at hc
      simp only [cond_true] at hc
      obtain ⟨z,hz,e⟩:=Option.map_eq_some_iff.1 hc
      simp only [Prod.mk.injEq] at e
      obtain ⟨rfl,rfl⟩:=e
      obtain ⟨I1,tk1,hF⟩:=pM (View.refl st) h hfs
      obtain ⟨n1,n2,n3⟩:=rP hok
      obtain ⟨q,hq,hr⟩:=hF.inv.boxes a d hd
      have key:∃ I' tk',Inv C (aK (fs++(coT a t d.1 d.2).1++ [.ins a (coT a t d.1 d.2).2]) st) tm w I' tk':=by
       rw [cB,cB]
       cases htop:d.1.bE with
       |true=>
        obtain ⟨d',e,hr'⟩:=PD (self:=a) (u:=t) htop hr
        rw [e]
        exact ⟨I1,tk1,hF.inv.vM hd hq hr'⟩
       |false=>
        obtain ⟨k1,k2,bb,cs,k3,k4,k5⟩:=(aH.str (t:=d.1) (x:=d.2) htop).1 hr
        obtain ⟨tk2,g1,g2,g3,g4,g5,g6⟩:=Cy a (u:=t) hF.inv k5 n1 n2 n3
        have hna:a∉(coT a t d.1 d.2).1.flatMap Pm.tc:=fun hm=>n2 a hm List.mem_cons_self
        have hq2:tk2 a=some q:=(g5 a hna).trans hq
        have hbx:∃ d2,(aK (coT a t d.1 d.2).1 (aK fs st)).box a=some d2:=by
         exact CB n3 hd
        obtain ⟨d2,hd2⟩:=hbx
        exact ⟨I1,tk2,g1.vM hd2 hq2 ((aH.str (g4 htop)).2 ⟨by rw [g3]; exact k1,k2,bb,cs,k3,k4,g2⟩)⟩
      obtain ⟨I2,tk2,h2⟩:=key
      obtain ⟨I3,tk3,h3⟩:=ih h2 hz
      exact ⟨I3,tk3,by rw [cB]; exact h3⟩
     ·cases hc
    ·cases hc
   ·cases hc
  ·cases hc
end Go.Own
set_option linter.unusedVariables false
namespace Go.Own
variable {C:Cx} {P:Program} {E:Env} {w w' w2:World} {I I' I1 I2:Nat→Prop} {st sv st':St} {tm:Array Value} {tk tk':aP} {ds:List Deferred} {o:Oper} {R:Type}
structure I9 (m:Mt):Prop where
 to:∀ a b b',(a,b)∈m→(a,b')∈m→b=b'
 of:∀ a a' b,(a,b)∈m→(a',b)∈m→a=a'
 ext:∀ a b,(a,b)∈m→1000000≤b→a=b
theorem BR:∀ {m:Mt},MV m=true→I9 m
 | [],_=>⟨fun a b b' h=>(by cases h),fun a a' b h=>(by cases h),fun a b h=>(by cases h)⟩
 |(a,b)::r,h=>by
  simp only [MV,Bool.and_eq_true] at h
  obtain ⟨⟨h1,h2⟩,h3⟩:=h
  have ih:=BR h3
  have h1:∀ p∈r,(p.1=a→p.2=b)∧(p.2=b→p.1=a):=by
   intro p hp
   have:=List.all_eq_true.1 h1 p hp
   cases hb:Nat.beq p.1 a with
   |true=>rw [hb] at this; exact ⟨fun _=>beq_iff.1 this,fun _=>beq_iff.1 hb⟩
   |false=>
    rw [hb] at this
    simp only [cond_false,Bool.not_eq_true'] at this
    exact ⟨fun e=>absurd e (dV.1 hb),fun e=>absurd e (dV.1 this)⟩
  refine ⟨fun x y y' hx hy=> ?_,fun x x' y hx hy=> ?_,fun x y hx hxy=> ?_⟩
  ·rcases List.mem_cons.1 hx with e|hx<;>rcases List.mem_cons.1 hy with e'|hy
   ·cases e; cases e'; rfl
   ·cases e; exact ((h1 _ hy).1 rfl).symm
   ·cases e'; exact (h1 _ hx).1 rfl
   ·exact ih.to x y y' hx hy
  ·rcases List.mem_cons.1 hx with e|hx<;>rcases List.mem_cons.1 hy with e'|hy
   ·cases e; cases e'; rfl
   ·cases e; exact ((h1 _ hy).2 rfl).symm
   ·cases e'; exact (h1 _ hx).2 rfl
   ·exact ih.of x x' y hx hy
  ·rcases List.mem_cons.1 hx with e|hx
   ·cases e
    have:Nat.ble 1000000 b=true:=by rw [Nat.ble_eq]; exact hxy
    rw [this] at h2
    exact beq_iff.1 h2
   ·exact ih.ext x y hx hxy
theorem wo {m:Mt} {a b:Nat} (h:Bo m b=some a):(a,b)∈m:=by
 unfold Bo at h
 obtain ⟨p,hp,rfl⟩:=Option.map_eq_some_iff.1 h
 have h1:=List.find?_some hp
 have h2:=List.mem_of_find?_eq_some hp
 rw [← beq_iff.1 h1]; exact h2
theorem MX {m:Mt} (hm:I9 m) {a b:Nat} (h:(a,b)∈m):Bo m b=some a:=by
 cases hf:Bo m b with
 |none=>
  unfold Bo at hf
  simp only [Option.map_eq_none_iff,List.find?_eq_none] at hf
  exact absurd (beq_iff.2 rfl) (hf (a,b) h)
 |some a'=>rw [hm.of a' a b (wo hf) h]
theorem MW {m:Mt} (hm:I9 m) {a b:Nat} (h:(a,b)∈m):zO m a=b:=by
 unfold zO
 cases hf:m.find? fun p=>Nat.beq p.1 a with
 |none=>rw [List.find?_eq_none] at hf; exact absurd (beq_iff.2 rfl) (hf (a,b) h)
 |some p=>
  have h0:Nat.beq p.1 a=true:=List.find?_some (p:=fun q:Nat×Nat=>Nat.beq q.1 a) hf
  have h1:=beq_iff.1 h0
  have h2:=List.mem_of_find?_eq_some hf
  exact hm.to a p.2 b (by rw [← h1]; exact h2) h
theorem wB {m:Mt} {a b:Nat} (h:inM m a b=true):(a,b)∈m:=by
 unfold inM at h
 obtain ⟨p,hp,h1⟩:=List.any_eq_true.1 h
 simp only [Bool.and_eq_true] at h1
 rw [← beq_iff.1 h1.1,← beq_iff.1 h1.2]; exact hp
def tkM (m:Mt) (tk:aP):aP:=fun b=>(Bo m b).bind tk
theorem um {m:Mt} (hm:I9 m) {a b:Nat} (h:(a,b)∈m):tkM m tk b=tk a:=by
 unfold tkM; rw [MX hm h]; rfl
theorem JZ {m:Mt} (hm:I9 m) {t:Ty} (h:allM m t=true):∀ s∈mentions t,tkM m tk (zO m s)=tk s:=by
 intro s hs
 have:=List.all_eq_true.1 h s hs
 obtain ⟨p,hp,h1⟩:=List.any_eq_true.1 this
 have e:=beq_iff.1 h1
 have hm2:(s,p.2)∈m:=by rw [← e]; exact hp
 rw [MW hm hm2]
 exact um hm hm2
theorem Db {m:Mt} (hm:I9 m):∀ {cs:List SV} {caps:List (Nat×Ty)},qN m cs caps=true→cs.length=caps.length∧∀ (j:Nat) (c:SV) (p:Nat×Ty) (x:Value),cs[j]?=some c→caps[j]?=some p→bX w I tk c x→bX w I (tkM m tk) (.pb p.1 p.2 []) x:=by
 intro cs
 induction cs with
 |nil=>
  intro caps h
  cases caps with
  |nil=>exact ⟨rfl,fun j c p x h=>by simp at h⟩
  |cons=>simp [qN] at h
 |cons v cs ih=>
  intro caps h
  unfold qN at h
  split at h
  ·rename_i e; cases e
  ·rename_i s t r s' t' q e1
   cases e1
   simp only [Bool.and_eq_true,decide_eq_true_eq] at h
   obtain ⟨⟨h1,rfl⟩,h3⟩:=h
   obtain ⟨i1,i2⟩:=ih h3
   refine ⟨by simp [i1],fun j c p x hc hp hr=> ?_⟩
   cases j with
   |zero=>
    simp at hc hp
    subst hc; subst hp
    obtain ⟨k,b,off,g1,g2⟩:=hr
    exact ⟨k,b,off,(um hm (wB h1)).trans g1,g2⟩
   |succ j=>exact i2 j c p x (by simpa using hc) (by simpa using hp) hr
  ·cases h
theorem Mj {m:Mt} (hm:I9 m) {s:Sh} {v:SV} {y:s.den} {x:Value} (h:s.proj m v=some y) (hr:aU w I tk v x):aU w I (tkM m tk) (s.inj y) x:=by
 cases s<;>cases v<;>simp only [Sh.proj,reduceCtorEq] at h
 case p.p t d=>
  obtain ⟨u,z⟩:=d
  simp only at h
  split at h
  ·rename_i e; subst e; cases h; exact ⟨hr.1,hr.2.plain hr.1⟩
  ·cases h
 case sd.sd t d=>
  cases ha:allM m d.1 with
  |false=>rw [ha] at h; cases h
  |true=>
   rw [ha] at h
   simp only [cond_true] at h
   have:=bX.ren (tk':=tkM m tk) (ρ:=zO m) (v:= .sd d) (v':= .sd (d.ren (zO m))) (JZ hm ha) rfl hr
   generalize hd:d.ren (zO m)=d' at h this
   obtain ⟨u,z⟩:=d'
   simp only at h
   split at h
   ·rename_i e; subst e; cases h; exact this
   ·cases h
 case va.va b t a u=>
  cases ha:(inM m a b&&decide (t=u)) with
  |false=>rw [ha] at h; cases h
  |true=>
   simp only [Bool.and_eq_true,decide_eq_true_eq] at ha
   obtain ⟨h1,rfl⟩:=ha
   obtain ⟨q,g1,g2⟩:=hr
   exact ⟨q,(um hm (wB h1)).trans g1,g2⟩
 case vs.vs b t pa a u qa lo n=>
  cases ha:(inM m a b&&decide (t=u)&&decide (pa=qa)) with
  |false=>rw [ha] at h; cases h
  |true=>
   rw [ha] at h
   simp only [Bool.and_eq_true,decide_eq_true_eq] at ha
   obtain ⟨⟨h1,rfl⟩,rfl⟩:=ha
   cases h
   obtain ⟨q,g1,g2⟩:=hr
   exact ⟨q,(um hm (wB h1)).trans g1,g2⟩
 case pb.pb b t pa a u qa=>
  cases ha:(inM m a b&&decide (t=u)&&decide (pa=qa)) with
  |false=>rw [ha] at h; cases h
  |true=>
   simp only [Bool.and_eq_true,decide_eq_true_eq] at ha
   obtain ⟨⟨h1,rfl⟩,rfl⟩:=ha
   obtain ⟨k,bb,off,g1,g2⟩:=hr
   exact ⟨k,bb,off,(um hm (wB h1)).trans g1,g2⟩
 case mp.mp b k z a k' z'=>
  cases ha:(inM m a b&&decide (k=k')&&decide (z=z')) with
  |false=>rw [ha] at h; cases h
  |true=>
   simp only [Bool.and_eq_true,decide_eq_true_eq] at ha
   obtain ⟨⟨h1,rfl⟩,rfl⟩:=ha
   obtain ⟨q,bb,g1,g2⟩:=hr
   exact ⟨q,bb,(um hm (wB h1)).trans g1,g2⟩
 case nil.nil=>exact hr
 case nilp.nilp=>exact hr
 case clo.clo f caps g cs=>
  cases ha:(Nat.beq f g&&qN m cs caps) with
  |false=>rw [ha] at h; cases h
  |true=>
   simp only [Bool.and_eq_true] at ha
   obtain ⟨h1,h2⟩:=ha
   have e:=beq_iff.1 h1
   obtain ⟨vs,g1,g2,g3⟩:=hr
   obtain ⟨k1,k2⟩:=Db (w:=w) (I:=I) (tk:=tk) hm h2
   refine ⟨vs,by rw [g1]; show Value.func (.func g) #[] vs= .func (.func f) #[] vs; rw [e],by simp [g2,k1],fun j c z hc hz=> ?_⟩
   rw [List.getElem?_map] at hc
   obtain ⟨p,hp,rfl⟩:=Option.map_eq_some_iff.1 hc
   have hj:=(List.getElem?_eq_some_iff.1 hp).1
   have hcj:cs[j]?=some cs[j]:=List.getElem?_eq_getElem (by omega)
   exact k2 j _ p z hcj hp (g3 j _ z hcj hz)
theorem KU (sh:List (Nat×Sh)) (x:ShX sh):∀ (n i j:Nat),(uX sh x n i)[j]?=if j<n then some (Ia sh x (i+j)) else none:=by
 intro n
 induction n with
 |zero=>intro i j; simp [uX]
 |succ n ih=>
  intro i j
  cases j with
  |zero=>simp [uX]
  |succ j=>
   simp only [uX,List.getElem?_cons_succ,ih,Nat.succ_lt_succ_iff]
   rw [show i+1+j=i+(j+1) by omega]
theorem nk (sh:List (Nat×Sh)) (x:ShX sh):∀ (n i:Nat),(uX sh x n i).length=n
 |0,_=>rfl
 |n+1,i=>by simp only [uX,List.length_cons,nk sh x n]
theorem Ad {m:Mt}:∀ {sh:List (Nat×Sh)} {x:ShX sh},Jq m st sh=some x→∀ j,Ia sh x j= .dead∨∃ (s:Sh) (y:s.den),Ia sh x j=s.inj y∧s.proj m (st.slot j)=some y
 | [],_,_,_=> .inl rfl
 |(i,s)::sh,x,h,j=>by
  simp only [Jq] at h
  split at h
  ·rename_i a y h1 h2
   cases h
   simp only [Ia]
   cases hb:Nat.beq i j with
   |true=>exact .inr ⟨s,a,rfl,by rw [← beq_iff.1 hb]; exact h1⟩
   |false=>exact Ad h2 j
  ·cases h
theorem tC {m:Mt}:∀ {bx:List (Nat×Ty)} {y:BxX bx},Jr m st bx=some y→∀ {s:Nat} {d:DV},dN (Af bx y) s=some d→∃ a d0,Bo m s=some a∧st.box a=some d0∧allM m d0.1=true∧d0.ren (zO m)=d
 | [],_,_,s,d,h=>by cases h
 |(b,t)::bx,y,hp,s,d,h=>by
  simp only [Jr] at hp
  split at hp
  ·rename_i d0 z h1 h2
   cases ha:allM m d0.1 with
   |false=>rw [ha] at hp; cases hp
   |true=>
    rw [ha] at hp
    simp only [cond_true] at hp
    generalize hd:d0.ren (zO m)=d' at hp
    obtain ⟨u,zz⟩:=d'
    simp only at hp
    split at hp
    ·rename_i e
     subst e
     cases hp
     simp only [Af,dN] at h
     cases hb:Nat.beq b s with
     |true=>
      rw [hb] at h
      have:=beq_iff.1 hb
      subst this
      cases h
      obtain ⟨a,h3,h4⟩:=Option.bind_eq_some_iff.1 h1
      exact ⟨a,d0,h3,h4,ha,hd⟩
     |false=>rw [hb] at h; exact tC h2 h
    ·cases hp
  ·cases hp
theorem Ae:∀ (bx:List (Nat×Ty)) (y:BxX bx),(Af bx y).map (·.1)=bx.map (·.1)
 | [],_=>rfl
 |(s,t)::bx,y=>by simp only [Af,List.map_cons,Ae bx y.2]
def PO:List Nat→Bool
 | []=>true
 |a::r=>r.all (Nat.blt a)&&PO r
theorem CG:∀ {l:List Nat},PO l=true→l.Pairwise (· < ·)
 | [],_=>List.Pairwise.nil
 |a::r,h=>by
  simp only [PO,Bool.and_eq_true] at h
  exact List.pairwise_cons.2 ⟨fun x hx=>Nat.le_of_ble_eq_true (List.all_eq_true.1 h.1 x hx),CG h.2⟩
def EK (n:Nat) (sh:List (Nat×Sh)) (bx:List (Nat×Ty)):Bool:=(sh.all fun p=>Nat.blt p.1 n)&&PO (bx.map (·.1))
theorem qh {n:Nat} {sh:List (Nat×Sh)} {bx ord:List (Nat×Ty)} {x:ShX sh} {y:BxX bx} (hok:EK n sh bx=true) (hn:st.sl.length=n) (h:Inv C st tm w I tk) (hp:BL st sh bx ord=some (x,y)):
  ∃ I' tk',Inv C (inj n sh bx x y) tm w I' tk':=by
 unfold EK at hok
 simp only [Bool.and_eq_true] at hok
 obtain ⟨hk,hs⟩:=hok
 unfold BL at hp
 split at hp
 ·rename_i ps hps
  dsimp only at hp
  split at hp
  ·rename_i qs m hqs
   obtain ⟨I1,tk1,h1⟩:=IG h (fun p hp=>by rw [hn]; exact Nat.le_of_ble_eq_true (List.all_eq_true.1 hk p hp)) hps
   obtain ⟨I2,tk2,h2⟩:=II h1 hqs
   cases hm:MV m with
   |false=>rw [hm] at hp; cases hp
   |true=>
    rw [hm] at hp
    simp only [cond_true] at hp
    have hM:=BR hm
    split at hp
    ·rename_i x' y' hx hy
     cases hp
     have hlen:(aK qs (aK ps st)).sl.length=n:=by rw [bT,bT,hn]
     refine ⟨I2,tkM m tk2,h2.into (fun b=>(Bo m b).getD b) ?_ ?_ ?_ ?_ ?_ ?_ ?_ ?_⟩
     ·show (uX sh x n 0).length=tm.size
      rw [nk,← h2.len,hlen]
     ·show (uX sh x n 0).length≤900000
      rw [nk,← hlen]; exact h2.small
     ·show ((Af bx y).map (·.1)).Pairwise (· < ·)
      rw [Ae]; exact CG hs
     ·intro i hi
      have hi':i<n:=by rw [← nk sh x n 0]; exact hi
      have e:(inj n sh bx x y).slot i=Ia sh x i:=by
       unfold St.slot inj
       simp only [List.getD_eq_getElem?_getD,KU,if_pos hi',Nat.zero_add,Option.getD_some]
      rw [e]
      rcases Ad hx i with e2|⟨s,z,e2,e3⟩
      ·rw [e2]; exact aU.of1 (v:= .dead) trivial
      ·rw [e2]; exact Mj hM e3 (h2.slots i (by rw [hlen]; exact hi'))
     ·intro s d hd
      obtain ⟨a,d0,g1,g2,g3,rfl⟩:=tC hy hd
      obtain ⟨q,g4,g5⟩:=h2.boxes a d0 g2
      exact ⟨q,by unfold tkM; rw [g1]; exact g4,g5.ren (zO m) (JZ hM g3)⟩
     ·intro s q hq
      unfold tkM at hq
      obtain ⟨a,g1,g2⟩:=Option.bind_eq_some_iff.1 hq
      rw [g1]; exact g2
     ·intro s s' q q' hq hq' he
      unfold tkM at hq hq'
      obtain ⟨a,g1,_⟩:=Option.bind_eq_some_iff.1 hq
      obtain ⟨a',g1',_⟩:=Option.bind_eq_some_iff.1 hq'
      rw [g1,g1'] at he
      simp only [Option.getD_some] at he
      subst he
      exact hM.to a s s' (wo g1) (wo g1')
     ·intro j q hj d hd
      obtain ⟨a,d0,g1,g2,_,_⟩:=tC hy hd
      have e:=hM.ext a (site j) (wo g1) (by unfold site; omega)
      subst e
      unfold tkM
      rw [g1]
      exact h2.ext j q hj d0 g2
    ·cases hp
  ·cases hp
 ·cases hp
end Go.Own
set_option linter.unusedVariables false
namespace Go.Own
variable {C:Cx} {P:Program} {E:Env} {w w' w2:World} {I I' I1 I2:Nat→Prop} {st sv st':St} {tm:Array Value} {tk tk':aP} {ds:List Deferred} {o:Oper} {R:Type}
def FP {X Y U V R:Type} (step:X→Y→(X→Y→Option R)→(Nat→X→Y→Option R)→(U→V→Option R)→Option R):Nat→X→Y→(Nat→X→Y→Option R)→(U→V→Option R)→Option R
 |0,_,_,_,_=>none
 |q+1,x,y,ke,kr=>step x y (fun x' y'=>FP step q x' y' ke kr) ke kr
def xg {R:Type} (sh:List (Nat×Sh)) (bx ord:List (Nat×Ty)) (shR:List (Nat×Sh)) (bxR ordR:List (Nat×Ty)) (kn:ShX sh→BxX bx→Option R) (ke:Nat→ShX sh→BxX bx→Option R) (kr:ShX shR→BxX bxR→Option R):Ex→St→Option R
 | .normal,st=>match BL st sh bx ord with|some (x,y)=>kn x y|none=>none
 | .exit id,st=>match BL st sh bx ord with|some (x,y)=>ke id x y|none=>none
 | .ret,st=>match BL st shR bxR ordR with|some (x,y)=>kr x y|none=>none
structure Told {R:Type} (E:Env) (D:aF) (tab:List (Nat×LE R)) (N:Nat) (body:Code) (n:Nat) (sh:List (Nat×Sh)) (bx ord:List (Nat×Ty)) (shR:List (Nat×Sh)) (bxR:List (Nat×Ty))
  (F:ShX sh→BxX bx→(Nat→ShX sh→BxX bx→Option R)→(ShX shR→BxX bxR→Option R)→Option R) where
 m:Nat
 hn:n=N
 ok:EK n sh bx=true
 okR:EK n shR bxR=true
 ordR:List (Nat×Ty)
 step:ShX sh→BxX bx→(ShX sh→BxX bx→Option R)→(Nat→ShX sh→BxX bx→Option R)→(ShX shR→BxX bxR→Option R)→Option R
 round:∀ x y kn ke kr,mI E D (gZ E D tab m) body (inj n sh bx x y) (xg sh bx ord shR bxR ordR kn ke kr)=step x y kn ke kr
 comes:∀ x y ke kr r,F x y ke kr=some r→∃ q,FP step q x y ke kr=some r
theorem Kj {D:aF} {tab:List (Nat×LE R)} {r:R} {N n:Nat} {body:Code} {sh:List (Nat×Sh)} {bx ord:List (Nat×Ty)} {shR:List (Nat×Sh)} {bxR:List (Nat×Ty)} {F:ShX sh→BxX bx→(Nat→ShX sh→BxX bx→Option R)→(ShX shR→BxX bxR→Option R)→Option R}
  (hE:dO C.P E) (hD:ko C.P D) (T:Told E D tab N body n sh bx ord shR bxR F) (hL:∀ b∈eG body,wT r C ds N (gZ E D tab T.m) b)
  {k:Ex→St→Option R} {Q:Exit→Act→World→Prop} (hd:lG N body=true) (hf:fB n sh bx ord shR bxR F st k=some r) (hn:st.sl.length=N) (h:Inv C st tm w I tk) (hk:J9 C ds N r k Q):
  (Code.loop body).wp C.P Q ⟨tm,ds⟩ w:=by
 unfold fB at hf
 split at hf
 ·rename_i x y hp
  obtain ⟨q,hq⟩:=T.comes _ _ _ _ _ hf
  obtain ⟨I2,tk2,hi⟩:=qh T.ok (hn.trans T.hn.symm) h hp
  clear h hp hf hn
  refine wp_loop_rounds q ?_
  induction q generalizing x y tm w I2 tk2 with
  |zero=>cases hq
  |succ q ih=>
   rw [rounds_succ]
   simp only [FP] at hq
   rw [← T.round] at hq
   have hlen:(inj n sh bx x y).sl.length=N:=by rw [← T.hn]; exact nk sh x n 0
   refine tL hE hD body hL hd hq hlen hi ?_
   intro ex st1 tm1 w1 I1 tk1 e1 e2 e3
   have e2':st1.sl.length=n:=e2.trans T.hn.symm
   cases ex with
   |normal=>
    simp only [xg] at e1
    split at e1
    ·rename_i x' y' hp
     obtain ⟨I3,tk3,h3⟩:=qh T.ok e2' e3 hp
     exact ih x' y' e1 I3 tk3 h3
    ·cases e1
   |exit i=>
    simp only [xg] at e1
    split at e1
    ·rename_i x' y' hp
     obtain ⟨I3,tk3,h3⟩:=qh T.ok e2' e3 hp
     exact hk (.exit i) _ _ _ _ _ e1 (by rw [← T.hn]; exact nk sh x' n 0) h3
    ·cases e1
   |ret=>
    simp only [xg] at e1
    split at e1
    ·rename_i x' y' hp
     obtain ⟨I3,tk3,h3⟩:=qh T.okR e2' e3 hp
     exact hk .ret _ _ _ _ _ e1 (by rw [← T.hn]; exact nk shR x' n 0) h3
    ·cases e1
 ·cases hf
def fJ {R:Type} (E:Env) (D:aF) (tab:List (Nat×LE R)) (N:Nat) (c:Code):Prop:=
 ∀ body∈eG c,∀ L,nU tab (rid body)=some (.typed L)→∃ n sh bx ord shR bxR F,L=fB n sh bx ord shR bxR F∧Nonempty (Told E D tab N body n sh bx ord shR bxR F)
theorem Hz {D:aF} {tab:List (Nat×LE R)} {r:R} {N:Nat} (hE:dO C.P E) (hD:ko C.P D):∀ (c:Code),fJ E D tab N c→∀ m,∀ body∈eG c,wT r C ds N (gZ E D tab m) body:=by
 intro c
 induction c with
 |seq a b iha ihb=>
  intro hT m body hb
  rcases List.mem_append.1 hb with hb|hb
  ·exact iha (fun x hx=>hT x (by simp [eG,hx])) m body hb
  ·exact ihb (fun x hx=>hT x (by simp [eG,hx])) m body hb
 |cond q a b iha ihb=>
  intro hT m body hb
  rcases List.mem_append.1 hb with hb|hb
  ·exact iha (fun x hx=>hT x (by simp [eG,hx])) m body hb
  ·exact ihb (fun x hx=>hT x (by simp [eG,hx])) m body hb
 |block id a iha=>intro hT m body hb; exact iha hT m body hb
 |scope a iha=>intro hT m body hb; exact iha hT m body hb
 |loop a iha=>
  intro hT m body hb
  have iha:=iha fun x hx=>hT x (by simp [eG,hx])
  rcases List.mem_cons.1 hb with rfl|hb
  ·intro j st tm w I tk k Q hd hf hn h hk
   cases m with
   |zero=>cases hf
   |succ m=>
    simp only [gZ] at hf
    split at hf
    ·rename_i L hL
     obtain ⟨n,sh,bx,ord,shR,bxR,F,rfl,⟨T⟩⟩:=hT body (by simp [eG]) L hL
     exact Kj hE hD T (iha T.m) hd hf hn h hk
    ·exact zR hE hD (iha m) _ hd hf hn h hk
    ·exact zR hE hD (iha m) _ hd hf hn h hk
  ·intro j st tm w I tk k Q; exact iha m body hb
 |_=>intro hT m body hb; cases hb
end Go.Own
set_option linter.unusedVariables false
namespace Go.Own
variable {C:Cx} {P:Program} {E:Env} {w w' w2:World} {I I' I1 I2:Nat→Prop} {st sv st':St} {tm:Array Value} {tk tk':aP} {ds:List Deferred} {o:Oper} {R:Type}
theorem IA {n:Nat} {as:List AV} {bs:List DV} {args:Array Value} (h:Inv C (jH as bs) args w I tk) (hn:as.length≤n) (hs:n≤900000):
  Inv C (st0 [] n as bs) (args++Array.replicate (n - args.size) undef) w I tk:=by
 have hl:as.length=args.size:=by have:=h.len; simpa [jH] using this
 have hlen:(st0 [] n as bs).sl.length=n:=by simp [st0]; omega
 have hbox:∀ s,(st0 [] n as bs).box s=(jH as bs).box s:=fun s=>rfl
 refine h.into (fun s=>s) ?_ ?_ h.srt ?_ (fun s d hs=>h.boxes s d hs) (fun _ _ h=>h) (fun _ _ _ _ _ _ e=>e) (fun j q hj d hd=>h.ext j q hj d hd)
 ·rw [hlen]; simp; omega
 ·rw [hlen]; exact hs
 ·intro i hi
  rw [hlen] at hi
  rcases Nat.lt_or_ge i as.length with h1|h1
  ·have hsl:(st0 [] n as bs).slot i=(jH as bs).slot i:=by
    unfold St.slot st0 jH
    simp only [List.getD_eq_getElem?_getD]
    rw [List.getElem?_append_left (by simpa using h1)]
   have hia:i<args.size:=by omega
   have hv:(args++Array.replicate (n - args.size) undef).getD i undef=args.getD i undef:=by
    have h2:i<(args++Array.replicate (n - args.size) undef).size:=by simp; omega
    have:(args++Array.replicate (n - args.size) undef)[i]=args[i]:=Array.getElem_append_left hia
    simp only [Array.getD,h2,hia,dif_pos]
    exact this
   rw [hsl,hv]
   exact h.slots i (by simpa [jH] using h1)
  ·have hsl:(st0 [] n as bs).slot i= .dead:=by
    unfold St.slot st0
    simp only [List.getD_eq_getElem?_getD]
    rw [List.getElem?_append_right (by simpa using h1),List.getElem?_replicate]
    split<;>rfl
   rw [hsl]
   exact aU.of1 (v:= .dead) trivial
theorem Po {s:Nat} {d:DV}:∀ {l:List (Nat×DV)},(∀ x∈l,s<x.1)→rT s d l=(s,d)::l
 | [],_=>rfl
 |(i,a)::l,h=>by
  have h1:=h (i,a) List.mem_cons_self
  have h2:Nat.beq i s=false:=dV.2 (by have:s<i:=h1; omega)
  have h3:Nat.blt s i=true:=Nat.ble_eq_true_of_le (show s+1≤i from h1)
  simp only [rT,h2,h3,cond_true,cond_false]
theorem K7 {n:Nat} {as:List AV} {bs:List DV} {args:Array Value} (h:Inv C (jH as bs) args w I tk) (hn:as.length≤n) (hs:n≤900000):∀ {l:List (Nat×Ty)},vZ l=true→(l.isEmpty||JF as bs)=true→
  ∃ tk',Inv C (st0 l n as bs) (args++Array.replicate (n - args.size) undef) w I tk':=by
 intro l
 induction l with
 |nil=>intro _ _; exact ⟨tk,IA h hn hs⟩
 |cons p r ih=>
  obtain ⟨s,t⟩:=p
  intro hp hlow
  simp only [vZ,Bool.and_eq_true,List.all_eq_true] at hp
  obtain ⟨⟨⟨h1,h2⟩,h3⟩,h4⟩:=hp
  simp only [List.isEmpty_cons,Bool.false_or] at hlow
  obtain ⟨tk1,hi⟩:=ih h4 (by rw [hlow,Bool.or_true])
  have hs1:s<1000000:=Nat.le_of_ble_eq_true h1
  unfold JF at hlow
  simp only [Bool.and_eq_true,List.all_eq_true] at hlow
  obtain ⟨ha,hb⟩:=hlow
  have hge:∀ {x:Nat},Nat.ble 1000000 x=true→x≠s:=fun h=>by have:=Nat.le_of_ble_eq_true h; omega
  have hins:st0 ((s,t)::r) n as bs=(st0 r n as bs).fU s ⟨.pool t,[]⟩:=by
   unfold st0 St.fU
   rw [Po]
   ·rfl
   ·intro x hx
    rcases List.mem_append.1 hx with hx|hx
    ·unfold yI at hx
     obtain ⟨y,hy,rfl⟩:=List.mem_map.1 hx
     exact Nat.le_of_ble_eq_true (h3 y hy)
    ·have:=(lV bs 0).2 x.1 (List.mem_map.2 ⟨x,hx,rfl⟩)
     unfold site at this; omega
  have hfree:(st0 r n as bs).free s:=by
   constructor
   ·intro i hil hm
    have hsl:(st0 r n as bs).slot i=(st0 [] n as bs).slot i:=rfl
    rw [hsl] at hm
    unfold St.slot st0 at hm
    simp only [List.getD_eq_getElem?_getD] at hm
    rcases Nat.lt_or_ge i as.length with h5|h5
    ·rw [List.getElem?_append_left (by simpa using h5),List.getElem?_map,List.getElem?_eq_getElem h5] at hm
     simp only [Option.map_some,Option.getD_some] at hm
     have hav:(IX as[i]).dn=wM as[i]:=by
      cases as[i]<;>first|rfl|skip
      rename_i f caps
      show (caps.map AO).flatMap SV.sites=caps.flatMap rD
      rw [List.flatMap_map]
      congr 1
      funext a
      cases a<;>rfl
     rw [hav] at hm
     exact hge (ha s (List.mem_flatMap.2 ⟨as[i],List.getElem_mem h5,hm⟩)) rfl
    ·rw [List.getElem?_append_right (by simpa using h5),List.getElem?_replicate] at hm
     split at hm<;>simp [SV.dn,SV.sites] at hm
   ·intro q d hq hbx hm
    have hbx':dN (yI r++gX 0 bs) q=some d:=hbx
    have mem:∀ (l:List (Nat×DV)),dN l q=some d→(q,d)∈l:=by
     intro l
     induction l with
     |nil=>intro h; cases h
     |cons y l ihl=>
      intro h
      obtain ⟨i,a⟩:=y
      simp only [dN] at h
      cases hbq:Nat.beq i q with
      |true=>rw [hbq] at h; cases h; rw [beq_iff.1 hbq]; exact List.mem_cons_self
      |false=>rw [hbq] at h; exact List.mem_cons_of_mem _ (ihl h)
    rcases List.mem_append.1 (mem _ hbx') with hx|hx
    ·unfold yI at hx
     obtain ⟨y,hy,e⟩:=List.mem_map.1 hx
     cases e
     simp [mentions] at hm
    ·have:d∈bs:=by
      have aux:∀ (l:List DV) (j:Nat),(q,d)∈gX j l→d∈l:=by
       intro l
       induction l with
       |nil=>intro j h; simp [gX] at h
       |cons y l ihl=>
        intro j h
        simp only [gX,List.mem_cons] at h
        rcases h with h|h
        ·cases h; exact List.mem_cons_self
        ·exact List.mem_cons_of_mem _ (ihl _ h)
      exact aux bs 0 hx
     exact hge (hb s (List.mem_flatMap.2 ⟨d,this,hm⟩)) rfl
  rw [hins]
  have no:∀ b,¬ (⟨none,0,none,0,0,.pool t,0,[]⟩:Tk).own b:=fun b hb=>by rw [Tk.uz rfl] at hb; cases hb
  exact ⟨_,hi.xw (s:=s) (fun j=>by unfold site; omega) hfree (q:=⟨none,0,none,0,0,.pool t,0,[]⟩) (by simp [mentions]) (fun b hb=>(no b hb).elim) (fun b hb=>(no b hb).elim) ⟨rfl,h2,rfl,rfl,fun k r f x hr=>by simp at hr,fun k r fx hr=>by simp at hr⟩⟩
theorem KM {T:TypeId} {v u:Value} (h:(Instr.loadAt T v).run P w= .ok u w):(do loadVar T (← asAddr v):Sem Value).run P w= .ok u w:=by
 unfold Instr.loadAt at h
 cases v with
 |pointer a=>
  cases a with
  |some a=>simpa [Instr.sureAddr,asAddr] using h
  |none=>simp [Instr.sureAddr] at h
 |_=>simp [Instr.sureAddr] at h
def Dg (tm:Array Value):ResultVar→Sem Value
 | .tmp t=>pure (tm.getD t undef)
 | .cell a t=>do loadVar t (← asAddr (tm.getD a undef))
theorem EI (h:Inv C st tm w I tk) (t:Nat):aU w I tk (st.slot t) (tm.getD t undef):=by
 rcases Nat.lt_or_ge t st.sl.length with h1|h1
 ·exact h.slots t h1
 ·rw [CZ st t h1]; exact aU.of1 (v:= .dead) trivial
theorem Hf (hE:dO C.P E) (h:Inv C st tm w I tk) {rv:ResultVar} {x:SV} (hr:qO E st rv=some x):∃ v,(Dg tm rv).run C.P w= .ok v w∧aU w I tk x v:=by
 cases rv with
 |tmp t=>
  refine ⟨tm.getD t undef,rfl,?_⟩
  have hs:=EI h t
  simp only [qO,Option.some.injEq] at hr
  subst hr
  split
  ·exact aU.of1 (v:= .dead) trivial
  ·exact hs
 |cell a T=>
  simp only [qO] at hr
  split at hr
  ·rename_i t v hl
   cases hT:E.isT T t with
   |false=>rw [hT] at hr; cases hr
   |true=>
    rw [hT] at hr
    simp only [cond_true,Option.some.injEq] at hr
    subst hr
    obtain ⟨u,hu,hrv⟩:=yg hE (View.refl st) h (EI h a) hl (vC hE hT)
    exact ⟨u,KM hu,hrv⟩
  ·cases hr
theorem EU (hE:dO C.P E) (h:Inv C st tm w I tk):∀ {l:List ResultVar} {rs:List SV},l.mapM (qO E st)=some rs→
  ∃ vs:List Value,(l.mapM (Dg tm)).run C.P w= .ok vs w∧vs.length=rs.length∧∀ (j:Nat) (x:SV) (v:Value),rs[j]?=some x→vs[j]?=some v→aU w I tk x v:=by
 intro l
 induction l with
 |nil=>intro rs hr; simp at hr; subst hr; exact ⟨[],rfl,rfl,by simp⟩
 |cons r l ih=>
  intro rs hr
  simp only [List.mapM_cons,Option.bind_eq_bind,Option.pure_def] at hr
  obtain ⟨x,e1,hr⟩:=Option.bind_eq_some_iff.1 hr
  obtain ⟨xs,e2,hr⟩:=Option.bind_eq_some_iff.1 hr
  cases hr
  obtain ⟨v,hv,hrep⟩:=Hf hE h e1
  obtain ⟨vs,hvs,hl,hget⟩:=ih e2
  refine ⟨v::vs,?_,by simp [hl],fun j y u hj hu=> ?_⟩
  ·rw [List.mapM_cons,Sem.run_bind,hv]
   simp only [Result.andThen_ok]
   rw [Sem.run_bind,hvs]; rfl
  ·cases j with
   |zero=>simp at hj hu; subst hj; subst hu; exact hrep
   |succ j=>exact hget j y u (by simpa using hj) (by simpa using hu)
theorem Ku {ρ:Nat→Nat} {fs:List Pm}:∀ {vs:List SV} {Ts:List TypeId} {fz:List Bool} {rs:List RV},BJ E ρ fs Ts fz vs=some rs→rs.length=vs.length∧
  ∀ (k:Nat) (r:RV),rs[k]?=some r→∃ v,vs[k]?=some v∧((∃ T d,og (E.T T) (qD fs v)=some d∧r= .val d)∨zu ρ (qD fs v)=some r):=by
 intro vs
 induction vs with
 |nil=>intro Ts fz rs h; simp only [BJ,Option.some.injEq] at h; subst h; simp
 |cons v vs ih=>
  intro Ts fz rs h
  simp only [BJ] at h
  split at h
  ·rename_i r rs' e1 e2
   cases h
   obtain ⟨h1,h2⟩:=ih e2
   refine ⟨by simp [h1],fun k b hk=> ?_⟩
   cases k with
   |zero=>
    simp at hk; subst hk
    refine ⟨v,rfl,?_⟩
    cases hf:fz.headD true with
    |true=>
     rw [hf] at e1
     simp only [cond_true] at e1
     obtain ⟨d,hd,rfl⟩:=Option.map_eq_some_iff.1 e1
     exact .inl ⟨_,d,hd,rfl⟩
    |false=>rw [hf] at e1; exact .inr e1
   |succ k=>simpa using h2 k b (by simpa using hk)
  ·cases h
theorem Ct (ρ:Nat→Nat) (st:St):∀ (n j i:Nat),(qo ρ st j n)[i]?=if i<n then some ((st.box (site (j+i))).map (DV.ren ρ)) else none:=by
 intro n
 induction n with
 |zero=>intro j i; simp [qo]
 |succ n ih=>
  intro j i
  cases i with
  |zero=>simp [qo]
  |succ i=>
   simp only [qo,List.getElem?_cons_succ,ih,Nat.succ_lt_succ_iff]
   rw [show j+1+i=j+(i+1) by omega]
theorem xG (ρ:Nat→Nat) (st:St):∀ (n j:Nat),(qo ρ st j n).length=n
 |0,_=>rfl
 |n+1,j=>by simp only [qo,List.length_cons,xG ρ st n]
theorem uF:∀ (l:List (Option DV)) (j:Nat),((pJ j l).map (·.1)).Pairwise (· < ·)∧∀ x∈(pJ j l).map (·.1),site j≤x∧x<site (j+l.length)
 | [],j=>⟨List.Pairwise.nil,by simp [pJ]⟩
 |some d::l,j=>by
  obtain ⟨h1,h2⟩:=uF l (j+1)
  have e:site (j+1)=site j+1:=by unfold site; omega
  have e2:j+1+l.length=j+(l.length+1):=by omega
  have e3:site j<site (j+(l.length+1)):=by unfold site; omega
  rw [e2] at h2
  simp only [pJ,List.map_cons,List.length_cons]
  refine ⟨List.pairwise_cons.2 ⟨fun x hx=>by have:=(h2 x hx).1; omega,h1⟩,fun x hx=> ?_⟩
  rcases List.mem_cons.1 hx with rfl|hx
  ·exact ⟨Nat.le_refl _,e3⟩
  ·have:=h2 x hx; exact ⟨by omega,this.2⟩
 |none::l,j=>by
  obtain ⟨h1,h2⟩:=uF l (j+1)
  have e:site (j+1)=site j+1:=by unfold site; omega
  have e2:j+1+l.length=j+(l.length+1):=by omega
  rw [e2] at h2
  simp only [pJ,List.length_cons]
  exact ⟨h1,fun x hx=>by have:=h2 x hx; exact ⟨by omega,this.2⟩⟩
theorem LJ (r:Res):(jo r).srt:=by
 unfold St.srt jo
 simp only [List.map_append]
 refine List.pairwise_append.2 ⟨(uF r.bs 0).1,(lV r.fs r.bs.length).1,fun a ha b hb=> ?_⟩
 have h1:=((uF r.bs 0).2 a ha).2
 have h2:=(lV r.fs r.bs.length).2 b hb
 rw [Nat.zero_add] at h1
 omega
end Go.Own
set_option linter.unusedVariables false
namespace Go.Own
variable {C:Cx} {P:Program} {E:Env} {w w' w2:World} {I I' I1 I2:Nat→Prop} {st sv st':St} {tm:Array Value} {tk tk':aP} {ds:List Deferred} {o:Oper} {R:Type}
def uQ (n:Nat) (own:List Nat) (tk:aP):aP:=fun p=>bif jR n p then tk p else bif Nat.ble (site n) p then (own[p - site n]?).bind tk else none
def mY (n:Nat) (own:List Nat):Nat→Nat:=fun s=>bif jR n s then s else site (n+idxOf s own)
theorem rR {n j:Nat}:jR n (site j)=true↔j<n:=by
 unfold jR
 simp only [Bool.and_eq_true,Nat.ble_eq,Nat.blt_eq]
 unfold site
 omega
theorem QN {ρ:Nat→Nat} {v:SV} {r:RV} {x:Value} (hr:zu ρ v=some r) (hm:∀ s∈v.sites,tk' (ρ s)=tk s) (h:aU w I tk v x):bX w I tk' (zo r) x:=by
 cases v<;>simp only [zu,reduceCtorEq,Option.some.injEq] at hr<;>subst hr
 case p d=>exact bX.ren (ρ:=ρ) (v:= .p d) hm rfl h
 case sd d=>exact bX.ren (ρ:=ρ) (v:= .sd d) hm rfl h
 case va s t=>exact bX.ren (ρ:=ρ) (v:= .va s t) hm rfl h
 case vs s t pa lo n=>exact bX.ren (ρ:=ρ) (v:= .vs s t pa lo n) hm rfl h
 case pb s t pa=>exact bX.ren (ρ:=ρ) (v:= .pb s t pa) hm rfl h
 case mp s k u=>exact bX.ren (ρ:=ρ) (v:= .mp s k u) hm rfl h
 case nil=>exact h
 case nilp=>exact h
theorem L6 {ρ:Nat→Nat} {v:SV} {r:RV} (hr:zu ρ v=some r):Jo r=v.sites.map ρ:=by
 cases v<;>simp only [zu,reduceCtorEq,Option.some.injEq] at hr<;>subst hr<;>first|rfl|exact nK ρ _
theorem KR {n:Nat} {own:List Nat} {r:Res} {rs:List RV} {dl:List DV} {vs:List Value} (h:Inv C st tm w I tk) (hsm:rs.length≤900000) (hxn:C.xs.length=n) (hnd:own.Nodup) (hown:∀ s∈own,jR n s=false) (hd:own.mapM st.box=some dl)
  (hr:r=⟨rs,qo (mY n own) st 0 n,dl.map (DV.ren (mY n own))⟩) (hcl:mJ r=true) (hvl:vs.length=rs.length)
  (hv:∀ (j:Nat) (x:RV) (v:Value),rs[j]?=some x→vs[j]?=some v→(∃ d,x= .val d∧d.1.plain=true∧aA w I tk d.1 d.2 v)∨∃ s,zu (mY n own) s=some x∧aU w I tk s v):
  ∃ tk',Inv C (jo r) vs.toArray w I tk':=by
 have hbl:r.bs.length=n:=by rw [hr]; exact xG _ _ _ _
 obtain ⟨hdl,hdg⟩:=tq hd
 have hfl:r.fs.length=own.length:=by rw [hr]; simp [hdl]
 have named:∀ s,inR r (mY n own s)=true→uQ n own tk (mY n own s)=tk s:=by
  intro s hs
  unfold mY at hs ⊢
  cases he:jR n s with
  |true=>
   simp only [cond_true]
   unfold uQ
   rw [he]; rfl
  |false=>
   rw [he] at hs
   simp only [cond_false] at hs ⊢
   have hne:jR n (site (n+idxOf s own))=false:=by
    cases hx:jR n (site (n+idxOf s own)) with
    |false=>rfl
    |true=>have:=rR.1 hx; omega
   have hlt:idxOf s own<own.length:=by
    unfold inR at hs
    simp only [Bool.and_eq_true] at hs
    have hs:=hs.2
    have e:site (n+idxOf s own) - 1000000=n+idxOf s own:=by unfold site; omega
    rw [e,List.getElem?_eq_none (by omega)] at hs
    have hs':Nat.ble (site (n+idxOf s own)+1) (site (r.bs.length+r.fs.length))=true:=hs
    rw [Nat.ble_eq,hbl,hfl] at hs'
    unfold site at hs'
    omega
   unfold uQ
   have e2:Nat.ble (site n) (site (n+idxOf s own))=true:=by rw [Nat.ble_eq]; unfold site; omega
   have e3:site (n+idxOf s own) - site n=idxOf s own:=by unfold site; omega
   rw [hne,e2,e3,Cj hlt]; rfl
 have hcl':=hcl
 unfold mJ at hcl'
 simp only [Bool.and_eq_true,List.all_eq_true] at hcl'
 obtain ⟨⟨hclr,hclb⟩,hclf⟩:=hcl'
 have ex:∀ {s:Nat},jR n s=true→∃ j,s=site j∧j<n:=by
  intro s hs
  unfold jR at hs
  simp only [Bool.and_eq_true,Nat.ble_eq,Nat.blt_eq] at hs
  refine ⟨s - 1000000,?_,by omega⟩
  have:∀ k,site k=1000000+k:=fun k=>rfl
  rw [this]; omega
 refine ⟨uQ n own tk,h.into (fun p=>bif jR n p then p else own.getD (p - site n) 0) ?_ ?_ (LJ r) ?_ ?_ ?_ ?_ ?_⟩
 ·rw [hr]; simp [jo,hvl]
 ·rw [hr]; simp only [jo,List.length_map]; exact hsm
 ·
  intro i hi
  have hi':i<rs.length:=by rw [hr] at hi; simpa [jo] using hi
  have hri:rs[i]?=some rs[i]:=List.getElem?_eq_getElem hi'
  have hvi:vs[i]?=some vs[i]:=List.getElem?_eq_getElem (by omega)
  have e1:(jo r).slot i=zo rs[i]:=by
   rw [hr]
   unfold St.slot jo
   simp only [List.getD_eq_getElem?_getD,List.getElem?_map,hri,Option.map_some,Option.getD_some]
  have e2:vs.toArray.getD i undef=vs[i]:=by
   have:i<vs.length:=by omega
   simp [Array.getD,this]
  rw [e1,e2]
  have hmem:rs[i]∈r.rs:=by rw [hr]; exact List.getElem_mem hi'
  rcases hv i _ _ hri hvi with ⟨d,hx,hp,hd⟩|⟨s,hx,hd⟩
  ·rw [hx]; exact aU.of1 (v:= .p d) ⟨hp,hd.plain hp⟩
  ·refine aU.of1 (QN hx (fun t ht=>named t (hclr _ (List.mem_flatMap.2 ⟨_,hmem,?_⟩))) hd)
   rw [L6 hx]; exact List.mem_map.2 ⟨t,ht,rfl⟩
 ·
  intro s d hs
  obtain ⟨j,rfl,h3|⟨h3,h4⟩⟩:=vP r s d hs
  ·have hj:j<n:=by rw [← hbl]; exact (List.getElem?_eq_some_iff.1 h3).1
   have h5:=h3
   rw [hr] at h5
   simp only [Ct,if_pos hj,Nat.zero_add,Option.some.injEq] at h5
   obtain ⟨d0,h6,rfl⟩:=Option.map_eq_some_iff.1 h5
   obtain ⟨q,g1,g2⟩:=h.boxes _ d0 h6
   refine ⟨q,?_,g2.ren (mY n own) fun p hp=>named p (hclb _ (List.mem_flatMap.2 ⟨_,List.mem_of_getElem? h3,?_⟩))⟩
   ·unfold uQ; rw [rR.2 hj]; exact g1
   ·show mY n own p∈mentions (d0.ren (mY n own)).1
    rw [nK]; exact List.mem_map.2 ⟨p,hp,rfl⟩
  ·have h5:=h4
   rw [hr] at h5
   simp only [List.getElem?_map] at h5
   obtain ⟨d0,h6,rfl⟩:=Option.map_eq_some_iff.1 h5
   obtain ⟨s0,h7,h8⟩:=hdg _ d0 h6
   obtain ⟨q,g1,g2⟩:=h.boxes s0 d0 h8
   refine ⟨q,?_,g2.ren (mY n own) fun p hp=>named p (hclf _ (List.mem_flatMap.2 ⟨_,List.mem_of_getElem? h4,?_⟩))⟩
   ·unfold uQ
    rw [hbl] at h3
    have hne:jR n (site j)=false:=by
     cases hx:jR n (site j) with
     |false=>rfl
     |true=>have:=rR.1 hx; omega
    have e2:Nat.ble (site n) (site j)=true:=by rw [Nat.ble_eq]; unfold site; omega
    have e3:site j - site n=j - (qo (mY n own) st 0 n).length:=by rw [xG]; unfold site; omega
    rw [hne,e2,e3]
    simp only [cond_false,cond_true]
    rw [h7]; exact g1
   ·show mY n own p∈mentions (d0.ren (mY n own)).1
    rw [nK]; exact List.mem_map.2 ⟨p,hp,rfl⟩
 ·
  intro s q hq
  unfold uQ at hq
  cases he:jR n s with
  |true=>rw [he] at hq; exact hq
  |false=>
   rw [he] at hq
   simp only [cond_false] at hq ⊢
   cases hb:Nat.ble (site n) s with
   |false=>rw [hb] at hq; cases hq
   |true=>
    rw [hb] at hq
    obtain ⟨a,h1,h2⟩:=Option.bind_eq_some_iff.1 hq
    rw [List.getD_eq_getElem?_getD,h1]; exact h2
 ·intro s s' q q' hq hq' he
  have cs:∀ {s:Nat} {q:Tk},uQ n own tk s=some q→jR n s=true∨(jR n s=false∧site n≤s∧∃ a,own[s - site n]?=some a):=by
   intro s q hq
   unfold uQ at hq
   cases hx:jR n s with
   |true=>exact .inl rfl
   |false=>
    rw [hx] at hq
    simp only [cond_false] at hq
    cases hb:Nat.ble (site n) s with
    |false=>rw [hb] at hq; cases hq
    |true=>
     rw [hb] at hq
     obtain ⟨a,h1,_⟩:=Option.bind_eq_some_iff.1 hq
     exact .inr ⟨rfl,Nat.le_of_ble_eq_true hb,a,h1⟩
  rcases cs hq with h1|⟨h1,h2,a,h3⟩<;>rcases cs hq' with h1'|⟨h1',h2',a',h3'⟩<;>simp only [h1,h1',cond_true,cond_false] at he
  ·exact he
  ·rw [List.getD_eq_getElem?_getD,h3'] at he
   simp only [Option.getD_some] at he
   have:=hown a' (List.mem_of_getElem? h3')
   rw [← he,h1] at this; cases this
  ·rw [List.getD_eq_getElem?_getD,h3] at he
   simp only [Option.getD_some] at he
   have:=hown a (List.mem_of_getElem? h3)
   rw [he,h1'] at this; cases this
  ·rw [List.getD_eq_getElem?_getD,List.getD_eq_getElem?_getD,h3,h3'] at he
   simp only [Option.getD_some] at he
   subst he
   have:=Fp hnd h3 h3'
   omega
 ·intro j q hj d hd'
  have hjn:j<n:=by rw [← hxn]; exact (List.getElem?_eq_some_iff.1 hj).1
  unfold uQ
  rw [rR.2 hjn]
  obtain ⟨k,hk,h3|⟨h3,_⟩⟩:=vP r _ d hd'
  ·have:k=j:=by unfold site at hk; omega
   subst this
   rw [hr] at h3
   simp only [Ct,if_pos hjn,Nat.zero_add,Option.some.injEq] at h3
   obtain ⟨d0,h6,_⟩:=Option.map_eq_some_iff.1 h3
   exact h.ext k q hj d0 h6
  ·have:k=j:=by unfold site at hk; omega
   omega
end Go.Own
set_option linter.unusedVariables false
namespace Go.Own
variable {C:Cx} {P:Program} {E:Env} {w w' w2:World} {I I' I1 I2:Nat→Prop} {st sv st':St} {tm:Array Value} {tk tk':aP} {ds:List Deferred} {o:Oper} {R:Type}
theorem Dv (hE:dO C.P E) {fz:List Bool} {fn:Func} {Ts:List TypeId} {n:Nat} {ex:Ex} {r:Res} (hxn:C.xs.length=n) (hsm:fn.results.size≤900000) (h:Inv C st tm w I tk) (hk:M6 E fz fn.results.toList Ts n ex st=some r):
  (ex= .normal∨ex= .ret)∧∃ I' tk' vs,(results fn tm).run C.P w= .ok (kR vs) w∧Inv C (jo r) vs w I' tk':=by
 have go:(match fn.results.toList.mapM (qO E st) with
  |some vs=>match oG st (yO fz vs) with
   |some fs=>
    let st:=aK fs st
    let own:=(mr st 1000 (((qI fz vs).flatMap fun v=>(qD fs v).dn)++(List.range n).flatMap fun j=>match st.box (site j) with|some d=>mentions d.1|none=> []) []).filter fun s=> !jR n s
    let ρ:Nat→Nat:=fun s=>bif jR n s then s else site (n+idxOf s own)
    match BJ E ρ fs Ts fz vs,own.mapM st.box with
    |some rs,some ds=>bif nodupB own&&mJ ⟨rs,qo ρ st 0 n,ds.map (DV.ren ρ)⟩ then some (⟨rs,qo ρ st 0 n,ds.map (DV.ren ρ)⟩:Res) else none
    |_,_=>none
   |none=>none
  |none=>none)=some r→∃ I' tk' vs,(results fn tm).run C.P w= .ok (kR vs) w∧Inv C (jo r) vs w I' tk':=by
  intro hk
  split at hk
  ·rename_i vs hvs
   split at hk
   ·rename_i fs hfs
    obtain ⟨I1,tk1,hF⟩:=jZ (View.refl st) h hfs
    obtain ⟨us,hus,hul,hug⟩:=EU hE h hvs
    dsimp only at hk
    generalize hown:(mr (aK fs st) 1000 (((qI fz vs).flatMap fun v=>(qD fs v).dn)++(List.range n).flatMap fun j=>match (aK fs st).box (site j) with|some d=>mentions d.1|none=> []) []).filter (fun s=> !jR n s)=own at hk
    have hno:∀ s∈own,jR n s=false:=by
     intro s hs
     rw [← hown] at hs
     have:=(List.mem_filter.1 hs).2
     simpa using this
    split at hk
    ·rename_i rs dl hrs hdl
     cases hc:(nodupB own&&mJ ⟨rs,qo (fun s=>bif jR n s then s else site (n+idxOf s own)) (aK fs st) 0 n,dl.map (DV.ren (fun s=>bif jR n s then s else site (n+idxOf s own)))⟩) with
     |false=>rw [hc] at hk; cases hk
     |true=>
      rw [hc] at hk
      simp only [cond_true,Option.some.injEq] at hk
      simp only [Bool.and_eq_true] at hc
      obtain ⟨hrl,hrg⟩:=Ku hrs
      have hvl:vs.length=fn.results.toList.length:=(tq hvs).1
      have hlen:rs.length≤900000:=by
       have:fn.results.toList.length=fn.results.size:=Array.length_toList
       omega
      obtain ⟨tk2,h2⟩:=KR (r:=r) (vs:=us) hF.inv hlen hxn (vv hc.1) hno hdl hk.symm (by rw [← hk]; exact hc.2) (by omega) (fun j x v hx hv=>by
       obtain ⟨s,hs,hr⟩:=hrg j x hx
       have hrep:=hF.val s v (hug j s v hs hv)
       rcases hr with ⟨T,d,h3,rfl⟩|h3
       ·obtain ⟨g1,g2⟩:=jG hrep h3
        exact .inl ⟨d,rfl,g1,g2⟩
       ·exact .inr ⟨_,h3,hrep⟩)
      refine ⟨I1,tk2,us.toArray,?_,h2⟩
      have e5:results fn tm=(do let vs ← fn.results.mapM (Dg tm); pure (if h:vs.size=1 then vs[0] else .tuple vs)):=by
       unfold results
       congr 1
      rw [e5,Array.mapM_eq_mapM_toList,Sem.run_bind]
      have e6:(List.toArray <$>fn.results.toList.mapM (Dg tm)).run C.P w= .ok us.toArray w:=by
       rw [map_eq_pure_bind,Sem.run_bind,hus]; rfl
      rw [e6]; rfl
    ·cases hk
   ·cases hk
  ·cases hk
 cases ex with
 |normal=>exact ⟨.inl rfl,go hk⟩
 |exit id=>cases hk
 |ret=>exact ⟨.inr rfl,go hk⟩
theorem IB {D:aF} (hE:dO P E) (hD:ko P D) {fz:List Bool} {f:FuncId} {fn:Func} {c:Code} {as:List AV} {bs:List DV} {r:Res} {tab:List (Nat×LE Res)} (m:Nat) (hf:P.funcs[f]?=some fn) (hname:fn.name≠ "runtime.NumGoroutine") (hb:fn.body=some c)
  (hdst:lG fn.ntmps c=true) (hsmall:fn.ntmps≤900000) (hrsz:fn.results.size≤900000) (hT:fJ E D tab fn.ntmps c) (hr:fV E fz D (gZ E D tab m) fn c as bs=some r):Good P f as bs r:=by
 intro w I xs args hxl hg
 refine .inl ⟨fn,hf,hname,by rw [hb]; rfl,?_⟩
 unfold fV at hr
 cases hn:(decide (as.length≤fn.ntmps)&&vZ E.pools&&(E.pools.isEmpty||JF as bs)) with
 |false=>rw [hn] at hr; cases hr
 |true=>
 rw [hn] at hr
 simp only [cond_true] at hr
 simp only [Bool.and_eq_true] at hn
 obtain ⟨⟨hn,hp1⟩,hp2⟩:=hn
 have hn':as.length≤fn.ntmps:=of_decide_eq_true hn
 obtain ⟨tk0,hinv⟩:=K7 hg hn' hsmall hp1 hp2
 refine calls_of_wp hf hb ?_
 refine tL (C:=⟨P,w,I,xs⟩) hE hD c (Hz hE hD c hT m) hdst hr (by simp [st0]; omega) hinv ?_
 intro ex st tm w' I' tk hk hlen hi
 obtain ⟨hex,I2,tk2,vs,h1,h2⟩:=Dv (C:=⟨P,w,I,xs⟩) hE hxl hrsz hi hk
 rcases hex with rfl|rfl
 ·exact ⟨rfl,_,h1,_,rfl,I2,tk2,vs,rfl,h2⟩
 ·exact ⟨rfl,_,h1,_,rfl,I2,tk2,vs,rfl,h2⟩
end Go.Own
