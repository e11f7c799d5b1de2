/- What is proved: the evaluator of the translated code, and that it is sound, part 13. Conditions: those that each theorem names. -/
import Derived.Test.YtnighkkdmgmcnaaGreatW12
set_option linter.unusedVariables false
set_option linter.unusedSimpArgs false
set_option linter.unusedVariables false
namespace Go.Own
variable {C:Cx} {P:Program} {E:Env} {w w' w2:World} {I I' I1 I2:Nat→Prop} {st sv st':St} {tm:Array Value} {tk tk':aU} {ds:List Deferred} {o:Oper} {R:Type}
theorem MR (tm:Array Value) (i:Nat):tm.setIfInBounds i (tm.getD i undef)=tm:=by
 apply Array.ext'
 rw [Array.toList_setIfInBounds]
 apply List.ext_getElem?
 intro j
 rw [List.getElem?_set]
 split
 ·rename_i hij
  subst hij
  split
  ·rename_i h
   have h':i<tm.size:=by simpa using h
   simp [Array.getD,h']
  ·rename_i h
   rw [List.getElem?_eq_none (by omega)]
 ·rfl
theorem Inv.tell (h:Inv C st tm w I tk) {i:Nat} (hi:i<st.sl.length) {s:SV} (hs:bf w I tk s (tm.getD i undef)):Inv C {st with sl:=st.sl.set i s} tm w I tk:=by
 have:=h.put hi hs
 rwa [MR] at this
theorem Dh (self:Nat):∀ {u t:Ty} {x:t.den} {st:St} {tk:aU} {cs:List Value},Inv C st tm w I tk→ai w I tk t x cs→((coT self u t x).1.flatMap Pm.tc).Nodup→(∀ s∈(coT self u t x).1.flatMap Pm.tc,s∉self::mentions t)→
  ((coT self u t x).1.all fun p=>match p with| .kill s=>Nat.blt s 1000000| .ins _ ⟨.dyn t,_⟩=>t.plain|_=>false)=true→
  ∃ tk',Inv C (aN (coT self u t x).1 st) tm w I tk'∧ai w I tk' (coT self u t x).2.1 (coT self u t x).2.2 cs∧(coT self u t x).2.1.frz=t.frz∧(t.bL=false→(coT self u t x).2.1.bL=false)∧
   (∀ r,r∉(coT self u t x).1.flatMap Pm.tc→tk' r=tk r)∧(∀ s∈mentions (coT self u t x).2.1,s∈self::mentions t∨s∈(coT self u t x).1.flatMap Pm.tc):=by
 intro u
 have same:∀ {t:Ty} {x:t.den} {st:St} {tk:aU} {cs:List Value},Inv C st tm w I tk→ai w I tk t x cs→∃ tk',Inv C (aN [] st) tm w I tk'∧ai w I tk' t x cs∧t.frz=t.frz∧(t.bL=false→t.bL=false)∧
   (∀ r,r∉([]:List Pm).flatMap Pm.tc→tk' r=tk r)∧(∀ s∈mentions t,s∈self::mentions t∨s∈([]:List Pm).flatMap Pm.tc):=
  fun h hc=>⟨_,h,hc,rfl,fun h=>h,fun _ _=>rfl,fun s hs=> .inl (List.mem_cons_of_mem _ hs)⟩
 induction u with
 |pair a b iha ihb=>
  intro t x st tk cs h hc hnd hdj hal
  cases t with
  |pair c d=>
   obtain ⟨c1,c2,rfl,h1,h2⟩:=hc
   simp only [coT,List.flatMap_append,List.all_append,Bool.and_eq_true] at hnd hdj hal ⊢
   obtain ⟨n1,n2,n3⟩:=List.nodup_append.1 hnd
   have d1:∀ s∈(coT self a c x.1).1.flatMap Pm.tc,s∉self::mentions c:=fun s hs hm=>hdj s (List.mem_append_left _ hs) (by
    rcases List.mem_cons.1 hm with rfl|hm
    ·exact List.mem_cons_self
    ·exact List.mem_cons_of_mem _ (List.mem_append_left _ hm))
   have d2:∀ s∈(coT self b d x.2).1.flatMap Pm.tc,s∉self::mentions d:=fun s hs hm=>hdj s (List.mem_append_right _ hs) (by
    rcases List.mem_cons.1 hm with rfl|hm
    ·exact List.mem_cons_self
    ·exact List.mem_cons_of_mem _ (List.mem_append_right _ hm))
   obtain ⟨tk1,i1,g1,f1,t1,e1,m1⟩:=iha h h1 n1 d1 hal.1
   have h2':ai w I tk1 d x.2 c2:=h2.congr fun s hs=>e1 s fun hm=>hdj s (List.mem_append_left _ hm) (List.mem_cons_of_mem _ (List.mem_append_right _ hs))
   obtain ⟨tk2,i2,g2,f2,t2,e2,m2⟩:=ihb i1 h2' n2 d2 hal.2
   refine ⟨tk2,by rw [dD]; exact i2,⟨c1,c2,rfl,g1.congr fun s hs=>e2 s fun hm=> ?_,g2⟩,by simp only [Ty.frz,f1,f2],fun _=>rfl,fun r hr=> ?_,fun s hs=> ?_⟩
   ·rcases m1 s hs with h3|h3
    ·rcases List.mem_cons.1 h3 with rfl|h3
     ·exact hdj s (List.mem_append_right _ hm) List.mem_cons_self
     ·exact hdj s (List.mem_append_right _ hm) (List.mem_cons_of_mem _ (List.mem_append_left _ h3))
    ·exact n3 s h3 s hm rfl
   ·rw [List.mem_append,not_or] at hr
    rw [e2 r hr.2,e1 r hr.1]
   ·simp only [mentions,List.mem_append] at hs
    rcases hs with hs|hs
    ·rcases m1 s hs with h3|h3
     ·rcases List.mem_cons.1 h3 with rfl|h3
      ·exact .inl List.mem_cons_self
      ·exact .inl (List.mem_cons_of_mem _ (List.mem_append_left _ h3))
     ·exact .inr (List.mem_append_left _ h3)
    ·rcases m2 s hs with h3|h3
     ·rcases List.mem_cons.1 h3 with rfl|h3
      ·exact .inl List.mem_cons_self
      ·exact .inl (List.mem_cons_of_mem _ (List.mem_append_right _ h3))
     ·exact .inr (List.mem_append_right _ h3)
  |_=>exact same h hc
 |sl a=>
  intro t x st tk cs h hc hnd hdj hal
  cases t with
  |nsl t=>
   have hc':cs= [.slice none 0 0]:=hc
   subst hc'
   exact ⟨tk,h,⟨none,0,rfl,Nat.le_refl _,.inl rfl⟩,rfl,fun _=>rfl,fun _ _=>rfl,fun s hs=>by cases hs⟩
  |_=>exact same h hc
 |vw s a=>
  intro t x st tk cs h hc hnd hdj hal
  cases t with
  |nsl t=>
   have hc':cs= [.slice none 0 0]:=hc
   subst hc'
   simp only [coT,kQ,List.all_cons,Bool.and_eq_true,List.all_nil,Bool.and_true] at hal
   have hlt:s<1000000:=Nat.le_of_ble_eq_true hal.1
   obtain ⟨tk',h1,⟨q,h2,h3,h4⟩,h5⟩:=h.II (d:=s) (t:=t) (fun j=>by unfold site; omega) hal.2
   refine ⟨tk',h1,⟨q,h2,h3,by rw [h4]⟩,rfl,fun _=>rfl,fun r hr=>h5 r fun e=>hr (by simp [coT,kQ,Pm.tc,e]),fun r hr=> .inr ?_⟩
   simp only [coT,mentions,List.mem_singleton] at hr
   subst hr
   simp [coT,kQ,Pm.tc]
  |_=>exact same h hc
 |sf s a pa=>
  intro t x st tk cs h hc hnd hdj hal
  cases t with
  |slf=>
   have hc':cs= [.pointer none]:=hc
   subst hc'
   exact ⟨tk,h,.inl ⟨rfl,rfl⟩,rfl,fun _=>rfl,fun _ _=>rfl,fun r hr=> .inl (by simpa [coT,mentions] using hr)⟩
  |_=>exact same h hc
 |dyn u ih=>
  intro t x st tk cs h hc hnd hdj hal
  cases t<;>first|exact hc.elim|(cases u<;>exact same h hc)
 |_=>intro t x st tk cs h hc hnd hdj hal; exact same h hc
end Go.Own
set_option linter.unusedVariables false
namespace Go.Own
variable {C:Cx} {P:Program} {E:Env} {w w' w2:World} {I I' I1 I2:Nat→Prop} {st sv st':St} {tm:Array Value} {tk tk':aU} {ds:List Deferred} {o:Oper} {R:Type}
theorem sI {av:List Nat} {ps:List Pm} (h:vD av ps=true):(ps.flatMap Pm.tc).Nodup∧(∀ s∈ps.flatMap Pm.tc,s∉av)∧(ps.all fun p=>match p with| .kill s=>Nat.blt s 1000000| .ins _ ⟨.dyn t,_⟩=>t.plain|_=>false)=true:=by
 unfold vD at h
 simp only [Bool.and_eq_true] at h
 exact ⟨vQ h.1.1,iD h.1.2,h.2⟩
theorem QI {self:Nat} {u:Ty} {d:DV} {q:Tk} (htop:d.1.bL=true) (hr:aI w I tk q d):∃ d',coT self u d.1 d.2=([],d')∧aI w I tk q d':=by
 obtain ⟨dt,dx⟩:=d
 have same:coT self u dt dx=([],⟨dt,dx⟩)→∃ d',coT self u dt dx=([],d')∧aI w I tk q d':=fun h=>⟨_,h,hr⟩
 cases dt<;>first|(cases htop; done)|skip
 ·rename_i dt
  cases u<;>first|exact same rfl|skip
  rename_i u
  cases u<;>first|exact same rfl|skip
  rename_i p u
  cases dt<;>first|exact same rfl|skip
  rename_i v
  cases hc:(decide (u=v)&&dx.2.isEmpty) with
  |false=>exact same (by simp only [coT]; rw [hc]; rfl)
  |true=>
   refine ⟨⟨.dyn (.rid p u),(dx.1,[])⟩,by simp only [coT]; rw [hc]; rfl,?_⟩
   simp only [Bool.and_eq_true,decide_eq_true_eq,List.isEmpty_iff] at hc
   obtain ⟨rfl,he⟩:=hc
   obtain ⟨h1,h2,h3,h4,h5,h6⟩:=hr
   refine ⟨?_,rfl,by rw [h3,he]; rfl,Nat.zero_le _,h5,h6.imp id ?_⟩
   ·rw [h1]; simp only [Ty.frz]
   ·rintro ⟨b,e1,e2,cs,e3,e4,e5⟩
    exact ⟨b,e1,e2,cs,e3,e4,fun i x hx=>by simp at hx⟩
 ·cases u<;>first|exact same rfl|(rename_i u; cases u<;>exact same rfl)
 ·cases u<;>first|exact same rfl|(rename_i u; cases u<;>exact same rfl)
theorem Dj:∀ {ps:List Pm} {st:St} {a:Nat} {d:DV},(ps.all fun p=>match p with| .kill s=>Nat.blt s 1000000| .ins _ ⟨.dyn t,_⟩=>t.plain|_=>false)=true→st.box a=some d→∃ d',(aN ps st).box a=some d'
 | [],st,a,d,_,h=>⟨d,h⟩
 |p::ps,st,a,d,ha,h=>by
  simp only [List.all_cons,Bool.and_eq_true] at ha
  have:∃ d',(p.run st).box a=some d':=by
   rw [sV,h]
   cases p with
   |kill s=>exact ⟨_,rfl⟩
   |ins s e=>
    simp only [jG]
    split
    ·exact ⟨_,rfl⟩
    ·exact ⟨_,rfl⟩
   |set j u=>exact ⟨_,rfl⟩
   |frz s c=>exact absurd ha.1 (by simp)
   |del s=>exact absurd ha.1 (by simp)
  obtain ⟨d',h'⟩:=this
  exact Dj (ps:=ps) (st:=p.run st) ha.2 h'
theorem LW {i:Nat} {s:Sh} {ps:List Pm} (h:Inv C st tm w I tk) (hi:i<st.sl.length) (hc:coS st i s=some ps):∃ I' tk',Inv C (aN ps st) tm w I' tk':=by
 have nil:some []=some ps→∃ I' tk',Inv C (aN ps st) tm w I' tk':=by
  intro e; cases e; exact ⟨I,tk,h⟩
 unfold coS at hc
 split at hc
 ·split at hc
  ·exact nil hc
  ·obtain ⟨r,hr,rfl⟩:=Option.map_eq_some_iff.1 hc
   obtain ⟨fs,d⟩:=r
   obtain ⟨I',tk',hF,h1,h2⟩:=uw (View.refl st) h (h.slots i hi) hr
   refine ⟨I',tk',?_⟩
   rw [dD]
   exact hF.inv.tell (by rw [dm]; exact hi) (s:= .p d) ⟨h1,h2⟩
 ·rename_i t
  split at hc
  ·rename_i d hd
   split at hc
   ·rename_i fs hfs
    split at hc
    ·rename_i d' hd'
     cases hok:vD (0::mentions d'.1) (coT 0 t d'.1 d'.2).1 with
     |false=>rw [hok] at hc; cases hc
     |true=>
     rw [hok] at hc
     simp only [cond_true,Option.some.injEq] at hc
     subst hc
     obtain ⟨I',tk',hF⟩:=qw (View.refl st) h hfs
     have hsl:=hF.inv.slots i (by rw [dm]; exact hi)
     rw [hd'] at hsl
     obtain ⟨n1,n2,n3⟩:=sI hok
     obtain ⟨ht,hv⟩:=hsl
     have go:∀ {cs:List Value},ai w I' tk' d'.1 d'.2 cs→(∀ {tk2:aU},ai w I' tk2 (coT 0 t d'.1 d'.2).2.1 (coT 0 t d'.1 d'.2).2.2 cs→(coT 0 t d'.1 d'.2).2.1.frz=d'.1.frz→aA w I' tk2 (coT 0 t d'.1 d'.2).2.1 (coT 0 t d'.1 d'.2).2.2 (tm.getD i undef))→
       ∃ I' tk',Inv C (aN (fs++(coT 0 t d'.1 d'.2).1++ [.set i (.sd (coT 0 t d'.1 d'.2).2)]) st) tm w I' tk':=by
      intro cs hcs hval
      obtain ⟨tk2,g1,g2,g3,g4,g5,g6⟩:=Dh 0 (u:=t) hF.inv hcs n1 n2 n3
      refine ⟨I',tk2,?_⟩
      rw [dD,dD]
      exact g1.tell (by rw [dm,dm]; exact hi) (s:= .sd (coT 0 t d'.1 d'.2).2) ⟨g4 ht,hval g2 g3⟩
     unfold aA at hv
     split at hv
     ·rename_i hag
      obtain ⟨cs,e1,hv⟩:=hv
      refine go hv fun {tk2} hcs hfr=> ?_
      unfold aA
      rw [if_pos (by rw [jb hfr]; exact hag)]
      exact ⟨cs,e1,hcs⟩
     ·rename_i hag
      refine go hv fun {tk2} hcs hfr=> ?_
      unfold aA
      rw [if_neg (by rw [jb hfr]; exact hag)]
      exact hcs
    ·cases hc
   ·cases hc
  ·cases hc
 ·rename_i b t
  split at hc
  ·rename_i hs
   cases hok:vD [] (kQ b ⟨.dyn t,(true,[])⟩) with
   |false=>rw [hok] at hc; cases hc
   |true=>
   rw [hok] at hc
   simp only [cond_true,Option.some.injEq] at hc
   subst hc
   obtain ⟨_,_,n3⟩:=sI hok
   simp only [kQ,List.all_cons,Bool.and_eq_true,List.all_nil,Bool.and_true] at n3
   have hlt:b<1000000:=Nat.le_of_ble_eq_true n3.1
   obtain ⟨tk',h1,⟨q,h2,h3,h4⟩,h5⟩:=h.II (d:=b) (t:=t) (fun j=>by unfold site; omega) n3.2
   have hsl:=h.slots i hi
   rw [hs] at hsl
   have e:tm.getD i undef= .slice none 0 0:=hsl
   refine ⟨I,tk',?_⟩
   rw [dD]
   exact h1.tell (by rw [dm]; exact hi) (s:= .va b t) ⟨q,h2,h3,by rw [e,h4]⟩
  ·exact nil hc
 ·rename_i b t pa
  split at hc
  ·rename_i hs
   cases hok:vD [] (kQ b ⟨.dyn t,(true,[])⟩) with
   |false=>rw [hok] at hc; cases hc
   |true=>
   rw [hok] at hc
   simp only [cond_true,Option.some.injEq] at hc
   subst hc
   obtain ⟨_,_,n3⟩:=sI hok
   simp only [kQ,List.all_cons,Bool.and_eq_true,List.all_nil,Bool.and_true] at n3
   have hlt:b<1000000:=Nat.le_of_ble_eq_true n3.1
   obtain ⟨tk',h1,⟨q,h2,h3,h4⟩,h5⟩:=h.II (d:=b) (t:=t) (fun j=>by unfold site; omega) n3.2
   have hsl:=h.slots i hi
   rw [hs] at hsl
   have e:tm.getD i undef= .slice none 0 0:=hsl
   refine ⟨I,tk',?_⟩
   rw [dD]
   unfold Tk.hdr at h4
   simp only [Value.slice.injEq] at h4
   obtain ⟨k1,k2,k3⟩:=h4
   refine h1.tell (by rw [dm]; exact hi) (s:= .vs b t [] 0 0) ⟨q,h2,.inl ⟨rfl,h3,⟨by omega,by omega⟩,none,by rw [e,k3],fun hq=>by omega,by simp [k1]⟩⟩
  ·rename_i a u hs
   split at hc
   ·rename_i u' x hbx
    simp only [Option.some.injEq] at hc
    subst hc
    have hsl:=h.slots i hi
    rw [hs] at hsl
    obtain ⟨q,h1,h2,h3⟩:=hsl
    obtain ⟨q',h4,h5⟩:=h.boxes a _ hbx
    rw [h1] at h4; cases h4
    obtain ⟨-,-,b3,b4,-,-⟩:=h5
    refine ⟨I,tk,?_⟩
    refine h.tell hi (s:= .vs a u [] 0 x.2.length) ⟨q,h1,.inl ⟨rfl,h2,⟨by omega,by omega⟩,q.ad,by rw [h3]; unfold Tk.hdr; rw [b3]; rfl,fun hq=> ?_,Iff.rfl⟩⟩
    cases q.ad with
    |none=>rfl
    |some ad=>simp [Addr.add]
   ·exact nil hc
  ·exact nil hc
 ·exact nil hc
theorem Jm:∀ {sh:List (Nat×Sh)} {st:St} {I:Nat→Prop} {tk:aU} {ps:List Pm},Inv C st tm w I tk→(∀ p∈sh,p.1<st.sl.length)→QJ st sh=some ps→∃ I' tk',Inv C (aN ps st) tm w I' tk':=by
 intro sh
 induction sh with
 |nil=>intro st I tk ps h _ hc; cases hc; exact ⟨I,tk,h⟩
 |cons p sh ih=>
  obtain ⟨i,s⟩:=p
  intro st I tk ps h hl hc
  simp only [QJ] at hc
  split at hc
  ·rename_i ps1 h1
   obtain ⟨qs,hq,rfl⟩:=Option.map_eq_some_iff.1 hc
   obtain ⟨I1,tk1,h2⟩:=LW h (hl (i,s) (by simp)) h1
   obtain ⟨I2,tk2,h3⟩:=ih h2 (fun p hp=>by rw [dm]; exact hl p (by simp [hp])) hq
   exact ⟨I2,tk2,by rw [dD]; exact h3⟩
  ·cases hc
theorem Jo:∀ {bx:List (Nat×Ty)} {st:St} {I:Nat→Prop} {tk:aU} {m m':Mt} {ps:List Pm},Inv C st tm w I tk→QK st bx m=some (ps,m')→∃ I' tk',Inv C (aN ps st) tm w I' tk':=by
 intro bx
 induction bx with
 |nil=>intro st I tk m m' ps h hc; cases hc; exact ⟨I,tk,h⟩
 |cons p bx ih=>
  obtain ⟨b,t⟩:=p
  intro st I tk m m' ps h hc
  simp only [QK] at hc
  split at hc
  ·rename_i a ha
   split at hc
   ·rename_i d0 hd0
    split at hc
    ·rename_i fs hfs
     split at hc
     ·rename_i d hd
      cases hok:vD (a::mentions d.1) (coT a t d.1 d.2).1 with
      |false=>rw [hok] at hc; cases hc
      |true=>
      rw [hok] at hc
      simp only [cond_true] at hc
      obtain ⟨z,hz,e⟩:=Option.map_eq_some_iff.1 hc
      simp only [Prod.mk.injEq] at e
      obtain ⟨rfl,rfl⟩:=e
      obtain ⟨I1,tk1,hF⟩:=qw (View.refl st) h hfs
      obtain ⟨n1,n2,n3⟩:=sI hok
      obtain ⟨q,hq,hr⟩:=hF.inv.boxes a d hd
      have key:∃ I' tk',Inv C (aN (fs++(coT a t d.1 d.2).1++ [.ins a (coT a t d.1 d.2).2]) st) tm w I' tk':=by
       rw [dD,dD]
       cases htop:d.1.bL with
       |true=>
        obtain ⟨d',e,hr'⟩:=QI (self:=a) (u:=t) htop hr
        rw [e]
        exact ⟨I1,tk1,hF.inv.wz hd hq hr'⟩
       |false=>
        obtain ⟨k1,k2,bb,cs,k3,k4,k5⟩:=(aI.str (t:=d.1) (x:=d.2) htop).1 hr
        obtain ⟨tk2,g1,g2,g3,g4,g5,g6⟩:=Dh a (u:=t) hF.inv k5 n1 n2 n3
        have hna:a∉(coT a t d.1 d.2).1.flatMap Pm.tc:=fun hm=>n2 a hm List.mem_cons_self
        have hq2:tk2 a=some q:=(g5 a hna).trans hq
        have hbx:∃ d2,(aN (coT a t d.1 d.2).1 (aN fs st)).box a=some d2:=by
         exact Dj n3 hd
        obtain ⟨d2,hd2⟩:=hbx
        exact ⟨I1,tk2,g1.wz hd2 hq2 ((aI.str (g4 htop)).2 ⟨by rw [g3]; exact k1,k2,bb,cs,k3,k4,g2⟩)⟩
      obtain ⟨I2,tk2,h2⟩:=key
      obtain ⟨I3,tk3,h3⟩:=ih h2 hz
      exact ⟨I3,tk3,by rw [dD]; exact h3⟩
     ·cases hc
    ·cases hc
   ·cases hc
  ·cases hc
end Go.Own
set_option linter.unusedVariables false
namespace Go.Own
variable {C:Cx} {P:Program} {E:Env} {w w' w2:World} {I I' I1 I2:Nat→Prop} {st sv st':St} {tm:Array Value} {tk tk':aU} {ds:List Deferred} {o:Oper} {R:Type}
structure JE (m:Mt):Prop where
 to:∀ a b b',(a,b)∈m→(a,b')∈m→b=b'
 of:∀ a a' b,(a,b)∈m→(a',b)∈m→a=a'
 ext:∀ a b,(a,b)∈m→1000000≤b→a=b
theorem Cw:∀ {m:Mt},NC m=true→JE m
 | [],_=>⟨fun a b b' h=>(by cases h),fun a a' b h=>(by cases h),fun a b h=>(by cases h)⟩
 |(a,b)::r,h=>by
  simp only [NC,Bool.and_eq_true] at h
  obtain ⟨⟨h1,h2⟩,h3⟩:=h
  have ih:=Cw h3
  have h1:∀ p∈r,(p.1=a→p.2=b)∧(p.2=b→p.1=a):=by
   intro p hp
   have:=List.all_eq_true.1 h1 p hp
   cases hb:Nat.beq p.1 a with
   |true=>rw [hb] at this; exact ⟨fun _=>beq_iff.1 this,fun _=>beq_iff.1 hb⟩
   |false=>
    rw [hb] at this
    simp only [cond_false,Bool.not_eq_true'] at this
    exact ⟨fun e=>absurd e (eP.1 hb),fun e=>absurd e (eP.1 this)⟩
  refine ⟨fun x y y' hx hy=> ?_,fun x x' y hx hy=> ?_,fun x y hx hxy=> ?_⟩
  ·rcases List.mem_cons.1 hx with e|hx<;>rcases List.mem_cons.1 hy with e'|hy
   ·cases e; cases e'; rfl
   ·cases e; exact ((h1 _ hy).1 rfl).symm
   ·cases e'; exact (h1 _ hx).1 rfl
   ·exact ih.to x y y' hx hy
  ·rcases List.mem_cons.1 hx with e|hx<;>rcases List.mem_cons.1 hy with e'|hy
   ·cases e; cases e'; rfl
   ·cases e; exact ((h1 _ hy).2 rfl).symm
   ·cases e'; exact (h1 _ hx).2 rfl
   ·exact ih.of x x' y hx hy
  ·rcases List.mem_cons.1 hx with e|hx
   ·cases e
    have:Nat.ble 1000000 b=true:=by rw [Nat.ble_eq]; exact hxy
    rw [this] at h2
    exact beq_iff.1 h2
   ·exact ih.ext x y hx hxy
theorem wR {m:Mt} {a b:Nat} (h:BP m b=some a):(a,b)∈m:=by
 unfold BP at h
 obtain ⟨p,hp,rfl⟩:=Option.map_eq_some_iff.1 h
 have h1:=List.find?_some hp
 have h2:=List.mem_of_find?_eq_some hp
 rw [← beq_iff.1 h1]; exact h2
theorem NE {m:Mt} (hm:JE m) {a b:Nat} (h:(a,b)∈m):BP m b=some a:=by
 cases hf:BP m b with
 |none=>
  unfold BP at hf
  simp only [Option.map_eq_none_iff,List.find?_eq_none] at hf
  exact absurd (beq_iff.2 rfl) (hf (a,b) h)
 |some a'=>rw [hm.of a' a b (wR hf) h]
theorem ND {m:Mt} (hm:JE m) {a b:Nat} (h:(a,b)∈m):Ai m a=b:=by
 unfold Ai
 cases hf:m.find? fun p=>Nat.beq p.1 a with
 |none=>rw [List.find?_eq_none] at hf; exact absurd (beq_iff.2 rfl) (hf (a,b) h)
 |some p=>
  have h0:Nat.beq p.1 a=true:=List.find?_some (p:=fun q:Nat×Nat=>Nat.beq q.1 a) hf
  have h1:=beq_iff.1 h0
  have h2:=List.mem_of_find?_eq_some hf
  exact hm.to a p.2 b (by rw [← h1]; exact h2) h
theorem wU {m:Mt} {a b:Nat} (h:inM m a b=true):(a,b)∈m:=by
 unfold inM at h
 obtain ⟨p,hp,h1⟩:=List.any_eq_true.1 h
 simp only [Bool.and_eq_true] at h1
 rw [← beq_iff.1 h1.1,← beq_iff.1 h1.2]; exact hp
def tkM (m:Mt) (tk:aU):aU:=fun b=>(BP m b).bind tk
theorem uO {m:Mt} (hm:JE m) {a b:Nat} (h:(a,b)∈m):tkM m tk b=tk a:=by
 unfold tkM; rw [NE hm h]; rfl
theorem KC {m:Mt} (hm:JE m) {t:Ty} (h:allM m t=true):∀ s∈mentions t,tkM m tk (Ai m s)=tk s:=by
 intro s hs
 have:=List.all_eq_true.1 h s hs
 obtain ⟨p,hp,h1⟩:=List.any_eq_true.1 this
 have e:=beq_iff.1 h1
 have hm2:(s,p.2)∈m:=by rw [← e]; exact hp
 rw [ND hm hm2]
 exact uO hm hm2
theorem DK {m:Mt} (hm:JE m):∀ {cs:List SV} {caps:List (Nat×Ty)},rE m cs caps=true→cs.length=caps.length∧∀ (j:Nat) (c:SV) (p:Nat×Ty) (x:Value),cs[j]?=some c→caps[j]?=some p→dB w I tk c x→dB w I (tkM m tk) (.pb p.1 p.2 []) x:=by
 intro cs
 induction cs with
 |nil=>
  intro caps h
  cases caps with
  |nil=>exact ⟨rfl,fun j c p x h=>by simp at h⟩
  |cons=>simp [rE] at h
 |cons v cs ih=>
  intro caps h
  unfold rE at h
  split at h
  ·rename_i e; cases e
  ·rename_i s t r s' t' q e1
   cases e1
   simp only [Bool.and_eq_true,decide_eq_true_eq] at h
   obtain ⟨⟨h1,rfl⟩,h3⟩:=h
   obtain ⟨i1,i2⟩:=ih h3
   refine ⟨by simp [i1],fun j c p x hc hp hr=> ?_⟩
   cases j with
   |zero=>
    simp at hc hp
    subst hc; subst hp
    obtain ⟨k,b,off,g1,g2⟩:=hr
    exact ⟨k,b,off,(uO hm (wU h1)).trans g1,g2⟩
   |succ j=>exact i2 j c p x (by simpa using hc) (by simpa using hp) hr
  ·cases h
theorem Na {m:Mt} (hm:JE m) {s:Sh} {v:SV} {y:s.den} {x:Value} (h:s.proj m v=some y) (hr:bf w I tk v x):bf w I (tkM m tk) (s.inj y) x:=by
 cases s<;>cases v<;>simp only [Sh.proj,reduceCtorEq] at h
 case p.p t d=>
  obtain ⟨u,z⟩:=d
  simp only at h
  split at h
  ·rename_i e; subst e; cases h; exact ⟨hr.1,hr.2.plain hr.1⟩
  ·cases h
 case sd.sd t d=>
  cases ha:allM m d.1 with
  |false=>rw [ha] at h; cases h
  |true=>
   rw [ha] at h
   simp only [cond_true] at h
   have:=dB.ren (tk':=tkM m tk) (ρ:=Ai m) (v:= .sd d) (v':= .sd (d.ren (Ai m))) (KC hm ha) rfl hr
   generalize hd:d.ren (Ai m)=d' at h this
   obtain ⟨u,z⟩:=d'
   simp only at h
   split at h
   ·rename_i e; subst e; cases h; exact this
   ·cases h
 case va.va b t a u=>
  cases ha:(inM m a b&&decide (t=u)) with
  |false=>rw [ha] at h; cases h
  |true=>
   simp only [Bool.and_eq_true,decide_eq_true_eq] at ha
   obtain ⟨h1,rfl⟩:=ha
   obtain ⟨q,g1,g2⟩:=hr
   exact ⟨q,(uO hm (wU h1)).trans g1,g2⟩
 case vs.vs b t pa a u qa lo n=>
  cases ha:(inM m a b&&decide (t=u)&&decide (pa=qa)) with
  |false=>rw [ha] at h; cases h
  |true=>
   rw [ha] at h
   simp only [Bool.and_eq_true,decide_eq_true_eq] at ha
   obtain ⟨⟨h1,rfl⟩,rfl⟩:=ha
   cases h
   obtain ⟨q,g1,g2⟩:=hr
   exact ⟨q,(uO hm (wU h1)).trans g1,g2⟩
 case pb.pb b t pa a u qa=>
  cases ha:(inM m a b&&decide (t=u)&&decide (pa=qa)) with
  |false=>rw [ha] at h; cases h
  |true=>
   simp only [Bool.and_eq_true,decide_eq_true_eq] at ha
   obtain ⟨⟨h1,rfl⟩,rfl⟩:=ha
   obtain ⟨k,bb,off,g1,g2⟩:=hr
   exact ⟨k,bb,off,(uO hm (wU h1)).trans g1,g2⟩
 case mp.mp b k z a k' z'=>
  cases ha:(inM m a b&&decide (k=k')&&decide (z=z')) with
  |false=>rw [ha] at h; cases h
  |true=>
   simp only [Bool.and_eq_true,decide_eq_true_eq] at ha
   obtain ⟨⟨h1,rfl⟩,rfl⟩:=ha
   obtain ⟨q,bb,g1,g2⟩:=hr
   exact ⟨q,bb,(uO hm (wU h1)).trans g1,g2⟩
 case nil.nil=>exact hr
 case nilp.nilp=>exact hr
 case clo.clo f caps g cs=>
  cases ha:(Nat.beq f g&&rE m cs caps) with
  |false=>rw [ha] at h; cases h
  |true=>
   simp only [Bool.and_eq_true] at ha
   obtain ⟨h1,h2⟩:=ha
   have e:=beq_iff.1 h1
   obtain ⟨vs,g1,g2,g3⟩:=hr
   obtain ⟨k1,k2⟩:=DK (w:=w) (I:=I) (tk:=tk) hm h2
   refine ⟨vs,by rw [g1]; show Value.func (.func g) #[] vs= .func (.func f) #[] vs; rw [e],by simp [g2,k1],fun j c z hc hz=> ?_⟩
   rw [List.getElem?_map] at hc
   obtain ⟨p,hp,rfl⟩:=Option.map_eq_some_iff.1 hc
   have hj:=(List.getElem?_eq_some_iff.1 hp).1
   have hcj:cs[j]?=some cs[j]:=List.getElem?_eq_getElem (by omega)
   exact k2 j _ p z hcj hp (g3 j _ z hcj hz)
theorem LB (sh:List (Nat×Sh)) (x:ShX sh):∀ (n i j:Nat),(vF sh x n i)[j]?=if j<n then some (IX sh x (i+j)) else none:=by
 intro n
 induction n with
 |zero=>intro i j; simp [vF]
 |succ n ih=>
  intro i j
  cases j with
  |zero=>simp [vF]
  |succ j=>
   simp only [vF,List.getElem?_cons_succ,ih,Nat.succ_lt_succ_iff]
   rw [show i+1+j=i+(j+1) by omega]
theorem nL (sh:List (Nat×Sh)) (x:ShX sh):∀ (n i:Nat),(vF sh x n i).length=n
 |0,_=>rfl
 |n+1,i=>by simp only [vF,List.length_cons,nL sh x n]
theorem AJ {m:Mt}:∀ {sh:List (Nat×Sh)} {x:ShX sh},JV m st sh=some x→∀ j,IX sh x j= .dead∨∃ (s:Sh) (y:s.den),IX sh x j=s.inj y∧s.proj m (st.slot j)=some y
 | [],_,_,_=> .inl rfl
 |(i,s)::sh,x,h,j=>by
  simp only [JV] at h
  split at h
  ·rename_i a y h1 h2
   cases h
   simp only [IX]
   cases hb:Nat.beq i j with
   |true=>exact .inr ⟨s,a,rfl,by rw [← beq_iff.1 hb]; exact h1⟩
   |false=>exact AJ h2 j
  ·cases h
theorem um {m:Mt}:∀ {bx:List (Nat×Ty)} {y:BxX bx},JW m st bx=some y→∀ {s:Nat} {d:DV},eB (AO bx y) s=some d→∃ a d0,BP m s=some a∧st.box a=some d0∧allM m d0.1=true∧d0.ren (Ai m)=d
 | [],_,_,s,d,h=>by cases h
 |(b,t)::bx,y,hp,s,d,h=>by
  simp only [JW] at hp
  split at hp
  ·rename_i d0 z h1 h2
   cases ha:allM m d0.1 with
   |false=>rw [ha] at hp; cases hp
   |true=>
    rw [ha] at hp
    simp only [cond_true] at hp
    generalize hd:d0.ren (Ai m)=d' at hp
    obtain ⟨u,zz⟩:=d'
    simp only at hp
    split at hp
    ·rename_i e
     subst e
     cases hp
     simp only [AO,eB] at h
     cases hb:Nat.beq b s with
     |true=>
      rw [hb] at h
      have:=beq_iff.1 hb
      subst this
      cases h
      obtain ⟨a,h3,h4⟩:=Option.bind_eq_some_iff.1 h1
      exact ⟨a,d0,h3,h4,ha,hd⟩
     |false=>rw [hb] at h; exact um h2 h
    ·cases hp
  ·cases hp
theorem AL:∀ (bx:List (Nat×Ty)) (y:BxX bx),(AO bx y).map (·.1)=bx.map (·.1)
 | [],_=>rfl
 |(s,t)::bx,y=>by simp only [AO,List.map_cons,AL bx y.2]
def QR:List Nat→Bool
 | []=>true
 |a::r=>r.all (Nat.blt a)&&QR r
theorem Dl:∀ {l:List Nat},QR l=true→l.Pairwise (· < ·)
 | [],_=>List.Pairwise.nil
 |a::r,h=>by
  simp only [QR,Bool.and_eq_true] at h
  exact List.pairwise_cons.2 ⟨fun x hx=>Nat.le_of_ble_eq_true (List.all_eq_true.1 h.1 x hx),Dl h.2⟩
def Fs (n:Nat) (sh:List (Nat×Sh)) (bx:List (Nat×Ty)):Bool:=(sh.all fun p=>Nat.blt p.1 n)&&QR (bx.map (·.1))
theorem qH {n:Nat} {sh:List (Nat×Sh)} {bx ord:List (Nat×Ty)} {x:ShX sh} {y:BxX bx} (hok:Fs n sh bx=true) (hn:st.sl.length=n) (h:Inv C st tm w I tk) (hp:Co st sh bx ord=some (x,y)):
  ∃ I' tk',Inv C (inj n sh bx x y) tm w I' tk':=by
 unfold Fs at hok
 simp only [Bool.and_eq_true] at hok
 obtain ⟨hk,hs⟩:=hok
 unfold Co at hp
 split at hp
 ·rename_i ps hps
  dsimp only at hp
  split at hp
  ·rename_i qs m hqs
   obtain ⟨I1,tk1,h1⟩:=Jm h (fun p hp=>by rw [hn]; exact Nat.le_of_ble_eq_true (List.all_eq_true.1 hk p hp)) hps
   obtain ⟨I2,tk2,h2⟩:=Jo h1 hqs
   cases hm:NC m with
   |false=>rw [hm] at hp; cases hp
   |true=>
    rw [hm] at hp
    simp only [cond_true] at hp
    have hM:=Cw hm
    split at hp
    ·rename_i x' y' hx hy
     cases hp
     have hlen:(aN qs (aN ps st)).sl.length=n:=by rw [dm,dm,hn]
     refine ⟨I2,tkM m tk2,h2.into (fun b=>(BP m b).getD b) ?_ ?_ ?_ ?_ ?_ ?_ ?_ ?_⟩
     ·show (vF sh x n 0).length=tm.size
      rw [nL,← h2.len,hlen]
     ·show (vF sh x n 0).length≤900000
      rw [nL,← hlen]; exact h2.small
     ·show ((AO bx y).map (·.1)).Pairwise (· < ·)
      rw [AL]; exact Dl hs
     ·intro i hi
      have hi':i<n:=by rw [← nL sh x n 0]; exact hi
      have e:(inj n sh bx x y).slot i=IX sh x i:=by
       unfold St.slot inj
       simp only [List.getD_eq_getElem?_getD,LB,if_pos hi',Nat.zero_add,Option.getD_some]
      rw [e]
      rcases AJ hx i with e2|⟨s,z,e2,e3⟩
      ·rw [e2]; exact bf.of1 (v:= .dead) trivial
      ·rw [e2]; exact Na hM e3 (h2.slots i (by rw [hlen]; exact hi'))
     ·intro s d hd
      obtain ⟨a,d0,g1,g2,g3,rfl⟩:=um hy hd
      obtain ⟨q,g4,g5⟩:=h2.boxes a d0 g2
      exact ⟨q,by unfold tkM; rw [g1]; exact g4,g5.ren (Ai m) (KC hM g3)⟩
     ·intro s q hq
      unfold tkM at hq
      obtain ⟨a,g1,g2⟩:=Option.bind_eq_some_iff.1 hq
      rw [g1]; exact g2
     ·intro s s' q q' hq hq' he
      unfold tkM at hq hq'
      obtain ⟨a,g1,_⟩:=Option.bind_eq_some_iff.1 hq
      obtain ⟨a',g1',_⟩:=Option.bind_eq_some_iff.1 hq'
      rw [g1,g1'] at he
      simp only [Option.getD_some] at he
      subst he
      exact hM.to a s s' (wR g1) (wR g1')
     ·intro j q hj d hd
      obtain ⟨a,d0,g1,g2,_,_⟩:=um hy hd
      have e:=hM.ext a (site j) (wR g1) (by unfold site; omega)
      subst e
      unfold tkM
      rw [g1]
      exact h2.ext j q hj d0 g2
    ·cases hp
  ·cases hp
 ·cases hp
end Go.Own
set_option linter.unusedVariables false
namespace Go.Own
variable {C:Cx} {P:Program} {E:Env} {w w' w2:World} {I I' I1 I2:Nat→Prop} {st sv st':St} {tm:Array Value} {tk tk':aU} {ds:List Deferred} {o:Oper} {R:Type}
def Gn {X Y U V R:Type} (step:X→Y→(X→Y→Option R)→(Nat→X→Y→Option R)→(U→V→Option R)→Option R):Nat→X→Y→(Nat→X→Y→Option R)→(U→V→Option R)→Option R
 |0,_,_,_,_=>none
 |q+1,x,y,ke,kr=>step x y (fun x' y'=>Gn step q x' y' ke kr) ke kr
def xQ {R:Type} (sh:List (Nat×Sh)) (bx ord:List (Nat×Ty)) (shR:List (Nat×Sh)) (bxR ordR:List (Nat×Ty)) (kn:ShX sh→BxX bx→Option R) (ke:Nat→ShX sh→BxX bx→Option R) (kr:ShX shR→BxX bxR→Option R):Ex→St→Option R
 | .normal,st=>match Co st sh bx ord with|some (x,y)=>kn x y|none=>none
 | .exit id,st=>match Co st sh bx ord with|some (x,y)=>ke id x y|none=>none
 | .ret,st=>match Co st shR bxR ordR with|some (x,y)=>kr x y|none=>none
structure Told {R:Type} (E:Env) (D:aH) (tab:List (Nat×LE R)) (N:Nat) (body:Code) (n:Nat) (sh:List (Nat×Sh)) (bx ord:List (Nat×Ty)) (shR:List (Nat×Sh)) (bxR:List (Nat×Ty))
  (F:ShX sh→BxX bx→(Nat→ShX sh→BxX bx→Option R)→(ShX shR→BxX bxR→Option R)→Option R) where
 m:Nat
 hn:n=N
 ok:Fs n sh bx=true
 okR:Fs n shR bxR=true
 ordR:List (Nat×Ty)
 step:ShX sh→BxX bx→(ShX sh→BxX bx→Option R)→(Nat→ShX sh→BxX bx→Option R)→(ShX shR→BxX bxR→Option R)→Option R
 round:∀ x y kn ke kr,mX E D (iG E D tab m) body (inj n sh bx x y) (xQ sh bx ord shR bxR ordR kn ke kr)=step x y kn ke kr
 comes:∀ x y ke kr r,F x y ke kr=some r→∃ q,Gn step q x y ke kr=some r
theorem KT {D:aH} {tab:List (Nat×LE R)} {r:R} {N n:Nat} {body:Code} {sh:List (Nat×Sh)} {bx ord:List (Nat×Ty)} {shR:List (Nat×Sh)} {bxR:List (Nat×Ty)} {F:ShX sh→BxX bx→(Nat→ShX sh→BxX bx→Option R)→(ShX shR→BxX bxR→Option R)→Option R}
  (hE:eD C.P E) (hD:kJ C.P D) (T:Told E D tab N body n sh bx ord shR bxR F) (hL:∀ b∈fE body,xI r C ds N (iG E D tab T.m) b)
  {k:Ex→St→Option R} {Q:Exit→Act→World→Prop} (hd:lY N body=true) (hf:eY n sh bx ord shR bxR F st k=some r) (hn:st.sl.length=N) (h:Inv C st tm w I tk) (hk:KH C ds N r k Q):
  (Code.loop body).wp C.P Q ⟨tm,ds⟩ w:=by
 unfold eY at hf
 split at hf
 ·rename_i x y hp
  obtain ⟨q,hq⟩:=T.comes _ _ _ _ _ hf
  obtain ⟨I2,tk2,hi⟩:=qH T.ok (hn.trans T.hn.symm) h hp
  clear h hp hf hn
  refine wp_loop_rounds q ?_
  induction q generalizing x y tm w I2 tk2 with
  |zero=>cases hq
  |succ q ih=>
   rw [rounds_succ]
   simp only [Gn] at hq
   rw [← T.round] at hq
   have hlen:(inj n sh bx x y).sl.length=N:=by rw [← T.hn]; exact nL sh x n 0
   refine uy hE hD body hL hd hq hlen hi ?_
   intro ex st1 tm1 w1 I1 tk1 e1 e2 e3
   have e2':st1.sl.length=n:=e2.trans T.hn.symm
   cases ex with
   |normal=>
    simp only [xQ] at e1
    split at e1
    ·rename_i x' y' hp
     obtain ⟨I3,tk3,h3⟩:=qH T.ok e2' e3 hp
     exact ih x' y' e1 I3 tk3 h3
    ·cases e1
   |exit i=>
    simp only [xQ] at e1
    split at e1
    ·rename_i x' y' hp
     obtain ⟨I3,tk3,h3⟩:=qH T.ok e2' e3 hp
     exact hk (.exit i) _ _ _ _ _ e1 (by rw [← T.hn]; exact nL sh x' n 0) h3
    ·cases e1
   |ret=>
    simp only [xQ] at e1
    split at e1
    ·rename_i x' y' hp
     obtain ⟨I3,tk3,h3⟩:=qH T.okR e2' e3 hp
     exact hk .ret _ _ _ _ _ e1 (by rw [← T.hn]; exact nL shR x' n 0) h3
    ·cases e1
 ·cases hf
def fQ {R:Type} (E:Env) (D:aH) (tab:List (Nat×LE R)) (N:Nat) (c:Code):Prop:=
 ∀ body∈fE c,∀ L,oD tab (rid body)=some (.typed L)→∃ n sh bx ord shR bxR F,L=eY n sh bx ord shR bxR F∧Nonempty (Told E D tab N body n sh bx ord shR bxR F)
theorem IJ {D:aH} {tab:List (Nat×LE R)} {r:R} {N:Nat} (hE:eD C.P E) (hD:kJ C.P D):∀ (c:Code),fQ E D tab N c→∀ m,∀ body∈fE c,xI r C ds N (iG E D tab m) body:=by
 intro c
 induction c with
 |seq a b iha ihb=>
  intro hT m body hb
  rcases List.mem_append.1 hb with hb|hb
  ·exact iha (fun x hx=>hT x (by simp [fE,hx])) m body hb
  ·exact ihb (fun x hx=>hT x (by simp [fE,hx])) m body hb
 |cond q a b iha ihb=>
  intro hT m body hb
  rcases List.mem_append.1 hb with hb|hb
  ·exact iha (fun x hx=>hT x (by simp [fE,hx])) m body hb
  ·exact ihb (fun x hx=>hT x (by simp [fE,hx])) m body hb
 |block id a iha=>intro hT m body hb; exact iha hT m body hb
 |scope a iha=>intro hT m body hb; exact iha hT m body hb
 |loop a iha=>
  intro hT m body hb
  have iha:=iha fun x hx=>hT x (by simp [fE,hx])
  rcases List.mem_cons.1 hb with rfl|hb
  ·intro j st tm w I tk k Q hd hf hn h hk
   cases m with
   |zero=>cases hf
   |succ m=>
    simp only [iG] at hf
    split at hf
    ·rename_i L hL
     obtain ⟨n,sh,bx,ord,shR,bxR,F,rfl,⟨T⟩⟩:=hT body (by simp [fE]) L hL
     exact KT hE hD T (iha T.m) hd hf hn h hk
    ·exact Al hE hD (iha m) _ hd hf hn h hk
    ·exact Al hE hD (iha m) _ hd hf hn h hk
  ·intro j st tm w I tk k Q; exact iha m body hb
 |_=>intro hT m body hb; cases hb
end Go.Own
set_option linter.unusedVariables false
namespace Go.Own
variable {C:Cx} {P:Program} {E:Env} {w w' w2:World} {I I' I1 I2:Nat→Prop} {st sv st':St} {tm:Array Value} {tk tk':aU} {ds:List Deferred} {o:Oper} {R:Type}
theorem Jh {n:Nat} {as:List AV} {bs:List DV} {args:Array Value} (h:Inv C (jS as bs) args w I tk) (hn:as.length≤n) (hs:n≤900000):
  Inv C (st0 [] n as bs) (args++Array.replicate (n - args.size) undef) w I tk:=by
 have hl:as.length=args.size:=by have:=h.len; simpa [jS] using this
 have hlen:(st0 [] n as bs).sl.length=n:=by simp [st0]; omega
 have hbox:∀ s,(st0 [] n as bs).box s=(jS as bs).box s:=fun s=>rfl
 refine h.into (fun s=>s) ?_ ?_ h.srt ?_ (fun s d hs=>h.boxes s d hs) (fun _ _ h=>h) (fun _ _ _ _ _ _ e=>e) (fun j q hj d hd=>h.ext j q hj d hd)
 ·rw [hlen]; simp; omega
 ·rw [hlen]; exact hs
 ·intro i hi
  rw [hlen] at hi
  rcases Nat.lt_or_ge i as.length with h1|h1
  ·have hsl:(st0 [] n as bs).slot i=(jS as bs).slot i:=by
    unfold St.slot st0 jS
    simp only [List.getD_eq_getElem?_getD]
    rw [List.getElem?_append_left (by simpa using h1)]
   have hia:i<args.size:=by omega
   have hv:(args++Array.replicate (n - args.size) undef).getD i undef=args.getD i undef:=by
    have h2:i<(args++Array.replicate (n - args.size) undef).size:=by simp; omega
    have:(args++Array.replicate (n - args.size) undef)[i]=args[i]:=Array.getElem_append_left hia
    simp only [Array.getD,h2,hia,dif_pos]
    exact this
   rw [hsl,hv]
   exact h.slots i (by simpa [jS] using h1)
  ·have hsl:(st0 [] n as bs).slot i= .dead:=by
    unfold St.slot st0
    simp only [List.getD_eq_getElem?_getD]
    rw [List.getElem?_append_right (by simpa using h1),List.getElem?_replicate]
    split<;>rfl
   rw [hsl]
   exact bf.of1 (v:= .dead) trivial
theorem Qw {s:Nat} {d:DV}:∀ {l:List (Nat×DV)},(∀ x∈l,s<x.1)→sM s d l=(s,d)::l
 | [],_=>rfl
 |(i,a)::l,h=>by
  have h1:=h (i,a) List.mem_cons_self
  have h2:Nat.beq i s=false:=eP.2 (by have:s<i:=h1; omega)
  have h3:Nat.blt s i=true:=Nat.ble_eq_true_of_le (show s+1≤i from h1)
  simp only [sM,h2,h3,cond_true,cond_false]
theorem LP {n:Nat} {as:List AV} {bs:List DV} {args:Array Value} (h:Inv C (jS as bs) args w I tk) (hn:as.length≤n) (hs:n≤900000):∀ {l:List (Nat×Ty)},wN l=true→(l.isEmpty||Kc as bs)=true→
  ∃ tk',Inv C (st0 l n as bs) (args++Array.replicate (n - args.size) undef) w I tk':=by
 intro l
 induction l with
 |nil=>intro _ _; exact ⟨tk,Jh h hn hs⟩
 |cons p r ih=>
  obtain ⟨s,t⟩:=p
  intro hp hlow
  simp only [wN,Bool.and_eq_true,List.all_eq_true] at hp
  obtain ⟨⟨⟨h1,h2⟩,h3⟩,h4⟩:=hp
  simp only [List.isEmpty_cons,Bool.false_or] at hlow
  obtain ⟨tk1,hi⟩:=ih h4 (by rw [hlow,Bool.or_true])
  have hs1:s<1000000:=Nat.le_of_ble_eq_true h1
  unfold Kc at hlow
  simp only [Bool.and_eq_true,List.all_eq_true] at hlow
  obtain ⟨ha,hb⟩:=hlow
  have hge:∀ {x:Nat},Nat.ble 1000000 x=true→x≠s:=fun h=>by have:=Nat.le_of_ble_eq_true h; omega
  have hins:st0 ((s,t)::r) n as bs=(st0 r n as bs).gI s ⟨.pool t,[]⟩:=by
   unfold st0 St.gI
   rw [Qw]
   ·rfl
   ·intro x hx
    rcases List.mem_append.1 hx with hx|hx
    ·unfold zh at hx
     obtain ⟨y,hy,rfl⟩:=List.mem_map.1 hx
     exact Nat.le_of_ble_eq_true (h3 y hy)
    ·have:=(mE bs 0).2 x.1 (List.mem_map.2 ⟨x,hx,rfl⟩)
     unfold site at this; omega
  have hfree:(st0 r n as bs).free s:=by
   constructor
   ·intro i hil hm
    have hsl:(st0 r n as bs).slot i=(st0 [] n as bs).slot i:=rfl
    rw [hsl] at hm
    unfold St.slot st0 at hm
    simp only [List.getD_eq_getElem?_getD] at hm
    rcases Nat.lt_or_ge i as.length with h5|h5
    ·rw [List.getElem?_append_left (by simpa using h5),List.getElem?_map,List.getElem?_eq_getElem h5] at hm
     simp only [Option.map_some,Option.getD_some] at hm
     have hav:(Jv as[i]).dO=xw as[i]:=by
      cases as[i]<;>first|rfl|skip
      rename_i f caps
      show (caps.map Bo).flatMap SV.sites=caps.flatMap rZ
      rw [List.flatMap_map]
      congr 1
      funext a
      cases a<;>rfl
     rw [hav] at hm
     exact hge (ha s (List.mem_flatMap.2 ⟨as[i],List.getElem_mem h5,hm⟩)) rfl
    ·rw [List.getElem?_append_right (by simpa using h5),List.getElem?_replicate] at hm
     split at hm<;>simp [SV.dO,SV.sites] at hm
   ·intro q d hq hbx hm
    have hbx':eB (zh r++iC 0 bs) q=some d:=hbx
    have mem:∀ (l:List (Nat×DV)),eB l q=some d→(q,d)∈l:=by
     intro l
     induction l with
     |nil=>intro h; cases h
     |cons y l ihl=>
      intro h
      obtain ⟨i,a⟩:=y
      simp only [eB] at h
      cases hbq:Nat.beq i q with
      |true=>rw [hbq] at h; cases h; rw [beq_iff.1 hbq]; exact List.mem_cons_self
      |false=>rw [hbq] at h; exact List.mem_cons_of_mem _ (ihl h)
    rcases List.mem_append.1 (mem _ hbx') with hx|hx
    ·unfold zh at hx
     obtain ⟨y,hy,e⟩:=List.mem_map.1 hx
     cases e
     simp [mentions] at hm
    ·have:d∈bs:=by
      have aux:∀ (l:List DV) (j:Nat),(q,d)∈iC j l→d∈l:=by
       intro l
       induction l with
       |nil=>intro j h; simp [iC] at h
       |cons y l ihl=>
        intro j h
        simp only [iC,List.mem_cons] at h
        rcases h with h|h
        ·cases h; exact List.mem_cons_self
        ·exact List.mem_cons_of_mem _ (ihl _ h)
      exact aux bs 0 hx
     exact hge (hb s (List.mem_flatMap.2 ⟨d,this,hm⟩)) rfl
  rw [hins]
  have no:∀ b,¬ (⟨none,0,none,0,0,.pool t,0,[]⟩:Tk).own b:=fun b hb=>by rw [Tk.uT rfl] at hb; cases hb
  exact ⟨_,hi.xW (s:=s) (fun j=>by unfold site; omega) hfree (q:=⟨none,0,none,0,0,.pool t,0,[]⟩) (by simp [mentions]) (fun b hb=>(no b hb).elim) (fun b hb=>(no b hb).elim) ⟨rfl,h2,rfl,rfl,fun k r f x hr=>by simp at hr,fun k r fx hr=>by simp at hr⟩⟩
theorem Ll {T:TypeId} {v u:Value} (h:(Instr.loadAt T v).run P w= .ok u w):(do loadVar T (← asAddr v):Sem Value).run P w= .ok u w:=by
 unfold Instr.loadAt at h
 cases v with
 |pointer a=>
  cases a with
  |some a=>simpa [Instr.sureAddr,asAddr] using h
  |none=>simp [Instr.sureAddr] at h
 |_=>simp [Instr.sureAddr] at h
def DR (tm:Array Value):ResultVar→Sem Value
 | .tmp t=>pure (tm.getD t undef)
 | .cell a t=>do loadVar t (← asAddr (tm.getD a undef))
theorem Fp (h:Inv C st tm w I tk) (t:Nat):bf w I tk (st.slot t) (tm.getD t undef):=by
 rcases Nat.lt_or_ge t st.sl.length with h1|h1
 ·exact h.slots t h1
 ·rw [DC st t h1]; exact bf.of1 (v:= .dead) trivial
theorem Ir (hE:eD C.P E) (h:Inv C st tm w I tk) {rv:ResultVar} {x:SV} (hr:rF E st rv=some x):∃ v,(DR tm rv).run C.P w= .ok v w∧bf w I tk x v:=by
 cases rv with
 |tmp t=>
  refine ⟨tm.getD t undef,rfl,?_⟩
  have hs:=Fp h t
  simp only [rF,Option.some.injEq] at hr
  subst hr
  split
  ·exact bf.of1 (v:= .dead) trivial
  ·exact hs
 |cell a T=>
  simp only [rF] at hr
  split at hr
  ·rename_i t v hl
   cases hT:E.isT T t with
   |false=>rw [hT] at hr; cases hr
   |true=>
    rw [hT] at hr
    simp only [cond_true,Option.some.injEq] at hr
    subst hr
    obtain ⟨u,hu,hrv⟩:=yS hE (View.refl st) h (Fp h a) hl (vT hE hT)
    exact ⟨u,Ll hu,hrv⟩
  ·cases hr
theorem FE (hE:eD C.P E) (h:Inv C st tm w I tk):∀ {l:List ResultVar} {rs:List SV},l.mapM (rF E st)=some rs→
  ∃ vs:List Value,(l.mapM (DR tm)).run C.P w= .ok vs w∧vs.length=rs.length∧∀ (j:Nat) (x:SV) (v:Value),rs[j]?=some x→vs[j]?=some v→bf w I tk x v:=by
 intro l
 induction l with
 |nil=>intro rs hr; simp at hr; subst hr; exact ⟨[],rfl,rfl,by simp⟩
 |cons r l ih=>
  intro rs hr
  simp only [List.mapM_cons,Option.bind_eq_bind,Option.pure_def] at hr
  obtain ⟨x,e1,hr⟩:=Option.bind_eq_some_iff.1 hr
  obtain ⟨xs,e2,hr⟩:=Option.bind_eq_some_iff.1 hr
  cases hr
  obtain ⟨v,hv,hrep⟩:=Ir hE h e1
  obtain ⟨vs,hvs,hl,hget⟩:=ih e2
  refine ⟨v::vs,?_,by simp [hl],fun j y u hj hu=> ?_⟩
  ·rw [List.mapM_cons,Sem.run_bind,hv]
   simp only [Result.andThen_ok]
   rw [Sem.run_bind,hvs]; rfl
  ·cases j with
   |zero=>simp at hj hu; subst hj; subst hu; exact hrep
   |succ j=>exact hget j y u (by simpa using hj) (by simpa using hu)
theorem K5 {ρ:Nat→Nat} {fs:List Pm}:∀ {vs:List SV} {Ts:List TypeId} {fz:List Bool} {rs:List RV},Ck E ρ fs Ts fz vs=some rs→rs.length=vs.length∧
  ∀ (k:Nat) (r:RV),rs[k]?=some r→∃ v,vs[k]?=some v∧((∃ T d,oK (E.T T) (qU fs v)=some d∧r= .val d)∨zT ρ (qU fs v)=some r):=by
 intro vs
 induction vs with
 |nil=>intro Ts fz rs h; simp only [Ck,Option.some.injEq] at h; subst h; simp
 |cons v vs ih=>
  intro Ts fz rs h
  simp only [Ck] at h
  split at h
  ·rename_i r rs' e1 e2
   cases h
   obtain ⟨h1,h2⟩:=ih e2
   refine ⟨by simp [h1],fun k b hk=> ?_⟩
   cases k with
   |zero=>
    simp at hk; subst hk
    refine ⟨v,rfl,?_⟩
    cases hf:fz.headD true with
    |true=>
     rw [hf] at e1
     simp only [cond_true] at e1
     obtain ⟨d,hd,rfl⟩:=Option.map_eq_some_iff.1 e1
     exact .inl ⟨_,d,hd,rfl⟩
    |false=>rw [hf] at e1; exact .inr e1
   |succ k=>simpa using h2 k b (by simpa using hk)
  ·cases h
theorem Da (ρ:Nat→Nat) (st:St):∀ (n j i:Nat),(qL ρ st j n)[i]?=if i<n then some ((st.box (site (j+i))).map (DV.ren ρ)) else none:=by
 intro n
 induction n with
 |zero=>intro j i; simp [qL]
 |succ n ih=>
  intro j i
  cases i with
  |zero=>simp [qL]
  |succ i=>
   simp only [qL,List.getElem?_cons_succ,ih,Nat.succ_lt_succ_iff]
   rw [show j+1+i=j+(i+1) by omega]
theorem yj (ρ:Nat→Nat) (st:St):∀ (n j:Nat),(qL ρ st j n).length=n
 |0,_=>rfl
 |n+1,j=>by simp only [qL,List.length_cons,yj ρ st n]
theorem uV:∀ (l:List (Option DV)) (j:Nat),((qm j l).map (·.1)).Pairwise (· < ·)∧∀ x∈(qm j l).map (·.1),site j≤x∧x<site (j+l.length)
 | [],j=>⟨List.Pairwise.nil,by simp [qm]⟩
 |some d::l,j=>by
  obtain ⟨h1,h2⟩:=uV l (j+1)
  have e:site (j+1)=site j+1:=by unfold site; omega
  have e2:j+1+l.length=j+(l.length+1):=by omega
  have e3:site j<site (j+(l.length+1)):=by unfold site; omega
  rw [e2] at h2
  simp only [qm,List.map_cons,List.length_cons]
  refine ⟨List.pairwise_cons.2 ⟨fun x hx=>by have:=(h2 x hx).1; omega,h1⟩,fun x hx=> ?_⟩
  rcases List.mem_cons.1 hx with rfl|hx
  ·exact ⟨Nat.le_refl _,e3⟩
  ·have:=h2 x hx; exact ⟨by omega,this.2⟩
 |none::l,j=>by
  obtain ⟨h1,h2⟩:=uV l (j+1)
  have e:site (j+1)=site j+1:=by unfold site; omega
  have e2:j+1+l.length=j+(l.length+1):=by omega
  rw [e2] at h2
  simp only [qm,List.length_cons]
  exact ⟨h1,fun x hx=>by have:=h2 x hx; exact ⟨by omega,this.2⟩⟩
theorem MI (r:Res):(jH r).srt:=by
 unfold St.srt jH
 simp only [List.map_append]
 refine List.pairwise_append.2 ⟨(uV r.bs 0).1,(mE r.fs r.bs.length).1,fun a ha b hb=> ?_⟩
 have h1:=((uV r.bs 0).2 a ha).2
 have h2:=(mE r.fs r.bs.length).2 b hb
 rw [Nat.zero_add] at h1
 omega
end Go.Own
set_option linter.unusedVariables false
namespace Go.Own
variable {C:Cx} {P:Program} {E:Env} {w w' w2:World} {I I' I1 I2:Nat→Prop} {st sv st':St} {tm:Array Value} {tk tk':aU} {ds:List Deferred} {o:Oper} {R:Type}
def vo (n:Nat) (own:List Nat) (tk:aU):aU:=fun p=>bif j3 n p then tk p else bif Nat.ble (site n) p then (own[p - site n]?).bind tk else none
def nH (n:Nat) (own:List Nat):Nat→Nat:=fun s=>bif j3 n s then s else site (n+idxOf s own)
theorem sK {n j:Nat}:j3 n (site j)=true↔j<n:=by
 unfold j3
 simp only [Bool.and_eq_true,Nat.ble_eq,Nat.blt_eq]
 unfold site
 omega
theorem R6 {ρ:Nat→Nat} {v:SV} {r:RV} {x:Value} (hr:zT ρ v=some r) (hm:∀ s∈v.sites,tk' (ρ s)=tk s) (h:bf w I tk v x):dB w I tk' (zR r) x:=by
 cases v<;>simp only [zT,reduceCtorEq,Option.some.injEq] at hr<;>subst hr
 case p d=>exact dB.ren (ρ:=ρ) (v:= .p d) hm rfl h
 case sd d=>exact dB.ren (ρ:=ρ) (v:= .sd d) hm rfl h
 case va s t=>exact dB.ren (ρ:=ρ) (v:= .va s t) hm rfl h
 case vs s t pa lo n=>exact dB.ren (ρ:=ρ) (v:= .vs s t pa lo n) hm rfl h
 case pb s t pa=>exact dB.ren (ρ:=ρ) (v:= .pb s t pa) hm rfl h
 case mp s k u=>exact dB.ren (ρ:=ρ) (v:= .mp s k u) hm rfl h
 case nil=>exact h
 case nilp=>exact h
theorem MV {ρ:Nat→Nat} {v:SV} {r:RV} (hr:zT ρ v=some r):JS r=v.sites.map ρ:=by
 cases v<;>simp only [zT,reduceCtorEq,Option.some.injEq] at hr<;>subst hr<;>first|rfl|exact nX ρ _
theorem Lu {n:Nat} {own:List Nat} {r:Res} {rs:List RV} {dl:List DV} {vs:List Value} (h:Inv C st tm w I tk) (hsm:rs.length≤900000) (hxn:C.xs.length=n) (hnd:own.Nodup) (hown:∀ s∈own,j3 n s=false) (hd:own.mapM st.box=some dl)
  (hr:r=⟨rs,qL (nH n own) st 0 n,dl.map (DV.ren (nH n own))⟩) (hcl:mY r=true) (hvl:vs.length=rs.length)
  (hv:∀ (j:Nat) (x:RV) (v:Value),rs[j]?=some x→vs[j]?=some v→(∃ d,x= .val d∧d.1.plain=true∧aA w I tk d.1 d.2 v)∨∃ s,zT (nH n own) s=some x∧bf w I tk s v):
  ∃ tk',Inv C (jH r) vs.toArray w I tk':=by
 have hbl:r.bs.length=n:=by rw [hr]; exact yj _ _ _ _
 obtain ⟨hdl,hdg⟩:=uj hd
 have hfl:r.fs.length=own.length:=by rw [hr]; simp [hdl]
 have named:∀ s,inR r (nH n own s)=true→vo n own tk (nH n own s)=tk s:=by
  intro s hs
  unfold nH at hs ⊢
  cases he:j3 n s with
  |true=>
   simp only [cond_true]
   unfold vo
   rw [he]; rfl
  |false=>
   rw [he] at hs
   simp only [cond_false] at hs ⊢
   have hne:j3 n (site (n+idxOf s own))=false:=by
    cases hx:j3 n (site (n+idxOf s own)) with
    |false=>rfl
    |true=>have:=sK.1 hx; omega
   have hlt:idxOf s own<own.length:=by
    unfold inR at hs
    simp only [Bool.and_eq_true] at hs
    have hs:=hs.2
    have e:site (n+idxOf s own) - 1000000=n+idxOf s own:=by unfold site; omega
    rw [e,List.getElem?_eq_none (by omega)] at hs
    have hs':Nat.ble (site (n+idxOf s own)+1) (site (r.bs.length+r.fs.length))=true:=hs
    rw [Nat.ble_eq,hbl,hfl] at hs'
    unfold site at hs'
    omega
   unfold vo
   have e2:Nat.ble (site n) (site (n+idxOf s own))=true:=by rw [Nat.ble_eq]; unfold site; omega
   have e3:site (n+idxOf s own) - site n=idxOf s own:=by unfold site; omega
   rw [hne,e2,e3,CV hlt]; rfl
 have hcl':=hcl
 unfold mY at hcl'
 simp only [Bool.and_eq_true,List.all_eq_true] at hcl'
 obtain ⟨⟨hclr,hclb⟩,hclf⟩:=hcl'
 have ex:∀ {s:Nat},j3 n s=true→∃ j,s=site j∧j<n:=by
  intro s hs
  unfold j3 at hs
  simp only [Bool.and_eq_true,Nat.ble_eq,Nat.blt_eq] at hs
  refine ⟨s - 1000000,?_,by omega⟩
  have:∀ k,site k=1000000+k:=fun k=>rfl
  rw [this]; omega
 refine ⟨vo n own tk,h.into (fun p=>bif j3 n p then p else own.getD (p - site n) 0) ?_ ?_ (MI r) ?_ ?_ ?_ ?_ ?_⟩
 ·rw [hr]; simp [jH,hvl]
 ·rw [hr]; simp only [jH,List.length_map]; exact hsm
 ·
  intro i hi
  have hi':i<rs.length:=by rw [hr] at hi; simpa [jH] using hi
  have hri:rs[i]?=some rs[i]:=List.getElem?_eq_getElem hi'
  have hvi:vs[i]?=some vs[i]:=List.getElem?_eq_getElem (by omega)
  have e1:(jH r).slot i=zR rs[i]:=by
   rw [hr]
   unfold St.slot jH
   simp only [List.getD_eq_getElem?_getD,List.getElem?_map,hri,Option.map_some,Option.getD_some]
  have e2:vs.toArray.getD i undef=vs[i]:=by
   have:i<vs.length:=by omega
   simp [Array.getD,this]
  rw [e1,e2]
  have hmem:rs[i]∈r.rs:=by rw [hr]; exact List.getElem_mem hi'
  rcases hv i _ _ hri hvi with ⟨d,hx,hp,hd⟩|⟨s,hx,hd⟩
  ·rw [hx]; exact bf.of1 (v:= .p d) ⟨hp,hd.plain hp⟩
  ·refine bf.of1 (R6 hx (fun t ht=>named t (hclr _ (List.mem_flatMap.2 ⟨_,hmem,?_⟩))) hd)
   rw [MV hx]; exact List.mem_map.2 ⟨t,ht,rfl⟩
 ·
  intro s d hs
  obtain ⟨j,rfl,h3|⟨h3,h4⟩⟩:=wE r s d hs
  ·have hj:j<n:=by rw [← hbl]; exact (List.getElem?_eq_some_iff.1 h3).1
   have h5:=h3
   rw [hr] at h5
   simp only [Da,if_pos hj,Nat.zero_add,Option.some.injEq] at h5
   obtain ⟨d0,h6,rfl⟩:=Option.map_eq_some_iff.1 h5
   obtain ⟨q,g1,g2⟩:=h.boxes _ d0 h6
   refine ⟨q,?_,g2.ren (nH n own) fun p hp=>named p (hclb _ (List.mem_flatMap.2 ⟨_,List.mem_of_getElem? h3,?_⟩))⟩
   ·unfold vo; rw [sK.2 hj]; exact g1
   ·show nH n own p∈mentions (d0.ren (nH n own)).1
    rw [nX]; exact List.mem_map.2 ⟨p,hp,rfl⟩
  ·have h5:=h4
   rw [hr] at h5
   simp only [List.getElem?_map] at h5
   obtain ⟨d0,h6,rfl⟩:=Option.map_eq_some_iff.1 h5
   obtain ⟨s0,h7,h8⟩:=hdg _ d0 h6
   obtain ⟨q,g1,g2⟩:=h.boxes s0 d0 h8
   refine ⟨q,?_,g2.ren (nH n own) fun p hp=>named p (hclf _ (List.mem_flatMap.2 ⟨_,List.mem_of_getElem? h4,?_⟩))⟩
   ·unfold vo
    rw [hbl] at h3
    have hne:j3 n (site j)=false:=by
     cases hx:j3 n (site j) with
     |false=>rfl
     |true=>have:=sK.1 hx; omega
    have e2:Nat.ble (site n) (site j)=true:=by rw [Nat.ble_eq]; unfold site; omega
    have e3:site j - site n=j - (qL (nH n own) st 0 n).length:=by rw [yj]; unfold site; omega
    rw [hne,e2,e3]
    simp only [cond_false,cond_true]
    rw [h7]; exact g1
   ·show nH n own p∈mentions (d0.ren (nH n own)).1
    rw [nX]; exact List.mem_map.2 ⟨p,hp,rfl⟩
 ·
  intro s q hq
  unfold vo at hq
  cases he:j3 n s with
  |true=>rw [he] at hq; exact hq
  |false=>
   rw [he] at hq
   simp only [cond_false] at hq ⊢
   cases hb:Nat.ble (site n) s with
   |false=>rw [hb] at hq; cases hq
   |true=>
    rw [hb] at hq
    obtain ⟨a,h1,h2⟩:=Option.bind_eq_some_iff.1 hq
    rw [List.getD_eq_getElem?_getD,h1]; exact h2
 ·intro s s' q q' hq hq' he
  have cs:∀ {s:Nat} {q:Tk},vo n own tk s=some q→j3 n s=true∨(j3 n s=false∧site n≤s∧∃ a,own[s - site n]?=some a):=by
   intro s q hq
   unfold vo at hq
   cases hx:j3 n s with
   |true=>exact .inl rfl
   |false=>
    rw [hx] at hq
    simp only [cond_false] at hq
    cases hb:Nat.ble (site n) s with
    |false=>rw [hb] at hq; cases hq
    |true=>
     rw [hb] at hq
     obtain ⟨a,h1,_⟩:=Option.bind_eq_some_iff.1 hq
     exact .inr ⟨rfl,Nat.le_of_ble_eq_true hb,a,h1⟩
  rcases cs hq with h1|⟨h1,h2,a,h3⟩<;>rcases cs hq' with h1'|⟨h1',h2',a',h3'⟩<;>simp only [h1,h1',cond_true,cond_false] at he
  ·exact he
  ·rw [List.getD_eq_getElem?_getD,h3'] at he
   simp only [Option.getD_some] at he
   have:=hown a' (List.mem_of_getElem? h3')
   rw [← he,h1] at this; cases this
  ·rw [List.getD_eq_getElem?_getD,h3] at he
   simp only [Option.getD_some] at he
   have:=hown a (List.mem_of_getElem? h3)
   rw [he,h1'] at this; cases this
  ·rw [List.getD_eq_getElem?_getD,List.getD_eq_getElem?_getD,h3,h3'] at he
   simp only [Option.getD_some] at he
   subst he
   have:=FY hnd h3 h3'
   omega
 ·intro j q hj d hd'
  have hjn:j<n:=by rw [← hxn]; exact (List.getElem?_eq_some_iff.1 hj).1
  unfold vo
  rw [sK.2 hjn]
  obtain ⟨k,hk,h3|⟨h3,_⟩⟩:=wE r _ d hd'
  ·have:k=j:=by unfold site at hk; omega
   subst this
   rw [hr] at h3
   simp only [Da,if_pos hjn,Nat.zero_add,Option.some.injEq] at h3
   obtain ⟨d0,h6,_⟩:=Option.map_eq_some_iff.1 h3
   exact h.ext k q hj d0 h6
  ·have:k=j:=by unfold site at hk; omega
   omega
end Go.Own
set_option linter.unusedVariables false
namespace Go.Own
variable {C:Cx} {P:Program} {E:Env} {w w' w2:World} {I I' I1 I2:Nat→Prop} {st sv st':St} {tm:Array Value} {tk tk':aU} {ds:List Deferred} {o:Oper} {R:Type}
theorem Ec (hE:eD C.P E) {fz:List Bool} {fn:Func} {Ts:List TypeId} {n:Nat} {ex:Ex} {r:Res} (hxn:C.xs.length=n) (hsm:fn.results.size≤900000) (h:Inv C st tm w I tk) (hk:NK E fz fn.results.toList Ts n ex st=some r):
  (ex= .normal∨ex= .ret)∧∃ I' tk' vs,(results fn tm).run C.P w= .ok (lC vs) w∧Inv C (jH r) vs w I' tk':=by
 have go:(match fn.results.toList.mapM (rF E st) with
  |some vs=>match oZ st (zo fz vs) with
   |some fs=>
    let st:=aN fs st
    let own:=(mR st 1000 (((q8 fz vs).flatMap fun v=>(qU fs v).dO)++(List.range n).flatMap fun j=>match st.box (site j) with|some d=>mentions d.1|none=> []) []).filter fun s=> !j3 n s
    let ρ:Nat→Nat:=fun s=>bif j3 n s then s else site (n+idxOf s own)
    match Ck E ρ fs Ts fz vs,own.mapM st.box with
    |some rs,some ds=>bif nodupB own&&mY ⟨rs,qL ρ st 0 n,ds.map (DV.ren ρ)⟩ then some (⟨rs,qL ρ st 0 n,ds.map (DV.ren ρ)⟩:Res) else none
    |_,_=>none
   |none=>none
  |none=>none)=some r→∃ I' tk' vs,(results fn tm).run C.P w= .ok (lC vs) w∧Inv C (jH r) vs w I' tk':=by
  intro hk
  split at hk
  ·rename_i vs hvs
   split at hk
   ·rename_i fs hfs
    obtain ⟨I1,tk1,hF⟩:=kC (View.refl st) h hfs
    obtain ⟨us,hus,hul,hug⟩:=FE hE h hvs
    dsimp only at hk
    generalize hown:(mR (aN fs st) 1000 (((q8 fz vs).flatMap fun v=>(qU fs v).dO)++(List.range n).flatMap fun j=>match (aN fs st).box (site j) with|some d=>mentions d.1|none=> []) []).filter (fun s=> !j3 n s)=own at hk
    have hno:∀ s∈own,j3 n s=false:=by
     intro s hs
     rw [← hown] at hs
     have:=(List.mem_filter.1 hs).2
     simpa using this
    split at hk
    ·rename_i rs dl hrs hdl
     cases hc:(nodupB own&&mY ⟨rs,qL (fun s=>bif j3 n s then s else site (n+idxOf s own)) (aN fs st) 0 n,dl.map (DV.ren (fun s=>bif j3 n s then s else site (n+idxOf s own)))⟩) with
     |false=>rw [hc] at hk; cases hk
     |true=>
      rw [hc] at hk
      simp only [cond_true,Option.some.injEq] at hk
      simp only [Bool.and_eq_true] at hc
      obtain ⟨hrl,hrg⟩:=K5 hrs
      have hvl:vs.length=fn.results.toList.length:=(uj hvs).1
      have hlen:rs.length≤900000:=by
       have:fn.results.toList.length=fn.results.size:=Array.length_toList
       omega
      obtain ⟨tk2,h2⟩:=Lu (r:=r) (vs:=us) hF.inv hlen hxn (vQ hc.1) hno hdl hk.symm (by rw [← hk]; exact hc.2) (by omega) (fun j x v hx hv=>by
       obtain ⟨s,hs,hr⟩:=hrg j x hx
       have hrep:=hF.val s v (hug j s v hs hv)
       rcases hr with ⟨T,d,h3,rfl⟩|h3
       ·obtain ⟨g1,g2⟩:=jR hrep h3
        exact .inl ⟨d,rfl,g1,g2⟩
       ·exact .inr ⟨_,h3,hrep⟩)
      refine ⟨I1,tk2,us.toArray,?_,h2⟩
      have e5:results fn tm=(do let vs ← fn.results.mapM (DR tm); pure (if h:vs.size=1 then vs[0] else .tuple vs)):=by
       unfold results
       congr 1
      rw [e5,Array.mapM_eq_mapM_toList,Sem.run_bind]
      have e6:(List.toArray <$>fn.results.toList.mapM (DR tm)).run C.P w= .ok us.toArray w:=by
       rw [map_eq_pure_bind,Sem.run_bind,hus]; rfl
      rw [e6]; rfl
    ·cases hk
   ·cases hk
  ·cases hk
 cases ex with
 |normal=>exact ⟨.inl rfl,go hk⟩
 |exit id=>cases hk
 |ret=>exact ⟨.inr rfl,go hk⟩
theorem Ji {D:aH} (hE:eD P E) (hD:kJ P D) {fz:List Bool} {f:FuncId} {fn:Func} {c:Code} {as:List AV} {bs:List DV} {r:Res} {tab:List (Nat×LE Res)} (m:Nat) (hf:P.funcs[f]?=some fn) (hname:fn.name≠ "runtime.NumGoroutine") (hb:fn.body=some c)
  (hdst:lY fn.ntmps c=true) (hsmall:fn.ntmps≤900000) (hrsz:fn.results.size≤900000) (hT:fQ E D tab fn.ntmps c) (hr:gL E fz D (iG E D tab m) fn c as bs=some r):Good P f as bs r:=by
 intro w I xs args hxl hg
 refine .inl ⟨fn,hf,hname,by rw [hb]; rfl,?_⟩
 unfold gL at hr
 cases hn:(decide (as.length≤fn.ntmps)&&wN E.pools&&(E.pools.isEmpty||Kc as bs)) with
 |false=>rw [hn] at hr; cases hr
 |true=>
 rw [hn] at hr
 simp only [cond_true] at hr
 simp only [Bool.and_eq_true] at hn
 obtain ⟨⟨hn,hp1⟩,hp2⟩:=hn
 have hn':as.length≤fn.ntmps:=of_decide_eq_true hn
 obtain ⟨tk0,hinv⟩:=LP hg hn' hsmall hp1 hp2
 refine calls_of_wp hf hb ?_
 refine uy (C:=⟨P,w,I,xs⟩) hE hD c (IJ hE hD c hT m) hdst hr (by simp [st0]; omega) hinv ?_
 intro ex st tm w' I' tk hk hlen hi
 obtain ⟨hex,I2,tk2,vs,h1,h2⟩:=Ec (C:=⟨P,w,I,xs⟩) hE hxl hrsz hi hk
 rcases hex with rfl|rfl
 ·exact ⟨rfl,_,h1,_,rfl,I2,tk2,vs,rfl,h2⟩
 ·exact ⟨rfl,_,h1,_,rfl,I2,tk2,vs,rfl,h2⟩
end Go.Own
