/- What is proved: the evaluator of the translated code, and that it is sound, part 13. Conditions: those that each theorem names. -/
import Derived.Test.YtkjppaidcnmjjaaGreatW12
import Derived.ProofKit
import Derived.OpenShut
import Derived.ShutString
import Derived.ChangeOld
import Derived.Below
import Derived.Carry
import Derived.SizedLaws
set_option linter.unusedVariables false
set_option linter.unusedSimpArgs false
set_option linter.unusedVariables false
namespace Go.Own
variable {C:Cx} {P:Program} {E:Env} {w w' w2:World} {I I' I1 I2:Nat→Prop} {st sv st':St} {tm:Array Value} {tk tk':bg} {ds:List Deferred} {o:Oper} {R:Type}
theorem rQ {av:List Nat} {ps:List Pm} (h:uT av ps=true):(ps.flatMap Pm.tc).Nodup∧(∀ s∈ps.flatMap Pm.tc,s∉av)∧(ps.all fun p=>match p with| .kill s=>Nat.blt s 1000000| .ins _ ⟨.dyn t,_⟩=>t.plain|_=>false)=true:=by
 unfold uT at h
 simp only [Bool.and_eq_true] at h
 exact ⟨vB h.1.1,gY h.1.2,h.2⟩
theorem QE {self:Nat} {u:Ty} {d:DV} {q:Tk} (htop:d.1.bM=true) (hr:aL w I tk q d):∃ d',coT self u d.1 d.2=([],d')∧aL w I tk q d':=by
 obtain ⟨dt,dx⟩:=d
 have same:coT self u dt dx=([],⟨dt,dx⟩)→∃ d',coT self u dt dx=([],d')∧aL w I tk q d':=fun h=>⟨_,h,hr⟩
 cases dt<;>first|(cases htop; done)|skip
 ·rename_i dt
  cases u<;>first|exact same rfl|skip
  rename_i u
  cases u<;>first|exact same rfl|skip
  rename_i p u
  cases dt<;>first|exact same rfl|skip
  rename_i v
  cases hc:(decide (u=v)&&dx.2.isEmpty) with
  |false=>exact same (by simp only [coT]; rw [hc]; rfl)
  |true=>
   refine ⟨⟨.dyn (.rid p u),(dx.1,[])⟩,by simp only [coT]; rw [hc]; rfl,?_⟩
   simp only [Bool.and_eq_true,decide_eq_true_eq,List.isEmpty_iff] at hc
   obtain ⟨rfl,he⟩:=hc
   obtain ⟨h1,h2,h3,h4,h5,h6⟩:=hr
   refine ⟨?_,rfl,by rw [h3,he]; rfl,Nat.zero_le _,h5,h6.imp id ?_⟩
   ·rw [h1]; simp only [Ty.frz]
   ·rintro ⟨b,e1,e2,cs,e3,e4,e5⟩
    exact ⟨b,e1,e2,cs,e3,e4,fun i x hx=>by simp at hx⟩
 ·cases u<;>first|exact same rfl|(rename_i u; cases u<;>exact same rfl)
 ·cases u<;>first|exact same rfl|(rename_i u; cases u<;>exact same rfl)
theorem Dj:∀ {ps:List Pm} {st:St} {a:Nat} {d:DV},(ps.all fun p=>match p with| .kill s=>Nat.blt s 1000000| .ins _ ⟨.dyn t,_⟩=>t.plain|_=>false)=true→st.box a=some d→∃ d',(aV ps st).box a=some d'
 | [],st,a,d,_,h=>⟨d,h⟩
 |p::ps,st,a,d,ha,h=>by
  simp only [List.all_cons,Bool.and_eq_true] at ha
  have:∃ d',(p.run st).box a=some d':=by
   rw [r9,h]
   cases p with
   |kill s=>exact ⟨_,rfl⟩
   |ins s e=>
    simp only [ji]
    split
    ·exact ⟨_,rfl⟩
    ·exact ⟨_,rfl⟩
   |set j u=>exact ⟨_,rfl⟩
   |frz s c=>exact absurd ha.1 (by simp)
   |del s=>exact absurd ha.1 (by simp)
  obtain ⟨d',h'⟩:=this
  exact Dj (ps:=ps) (st:=p.run st) ha.2 h'
theorem LY {i:Nat} {s:Sh} {ps:List Pm} (h:Inv C st tm w I tk) (hi:i<st.sl.length) (hc:coS st i s=some ps):∃ I' tk',Inv C (aV ps st) tm w I' tk':=by
 have nil:some []=some ps→∃ I' tk',Inv C (aV ps st) tm w I' tk':=by
  intro e; cases e; exact ⟨I,tk,h⟩
 unfold coS at hc
 split at hc
 ·split at hc
  ·exact nil hc
  ·obtain ⟨r,hr,rfl⟩:=Option.map_eq_some_iff.1 hc
   obtain ⟨fs,d⟩:=r
   obtain ⟨I',tk',hF,h1,h2⟩:=qB (View.refl st) h (h.slots i hi) hr
   refine ⟨I',tk',?_⟩
   rw [dn]
   exact hF.inv.tell (by rw [cu]; exact hi) (s:= .p d) ⟨h1,h2⟩
 ·rename_i t
  split at hc
  ·rename_i d hd
   split at hc
   ·rename_i fs hfs
    split at hc
    ·rename_i d' hd'
     cases hok:uT (0::mentions d'.1) (coT 0 t d'.1 d'.2).1 with
     |false=>rw [hok] at hc; cases hc
     |true=>
     rw [hok] at hc
     simp only [cond_true,Option.some.injEq] at hc
     subst hc
     obtain ⟨I',tk',hF⟩:=pQ (View.refl st) h hfs
     have hsl:=hF.inv.slots i (by rw [cu]; exact hi)
     rw [hd'] at hsl
     obtain ⟨n1,n2,n3⟩:=rQ hok
     obtain ⟨ht,hv⟩:=hsl
     have go:∀ {cs:List Value},af w I' tk' d'.1 d'.2 cs→(∀ {tk2:bg},af w I' tk2 (coT 0 t d'.1 d'.2).2.1 (coT 0 t d'.1 d'.2).2.2 cs→(coT 0 t d'.1 d'.2).2.1.frz=d'.1.frz→aC w I' tk2 (coT 0 t d'.1 d'.2).2.1 (coT 0 t d'.1 d'.2).2.2 (tm.getD i undef))→
       ∃ I' tk',Inv C (aV (fs++(coT 0 t d'.1 d'.2).1++ [.set i (.sd (coT 0 t d'.1 d'.2).2)]) st) tm w I' tk':=by
      intro cs hcs hval
      obtain ⟨tk2,g1,g2,g3,g4,g5,g6⟩:=Dh 0 (u:=t) hF.inv hcs n1 n2 n3
      refine ⟨I',tk2,?_⟩
      rw [dn,dn]
      exact g1.tell (by rw [cu,cu]; exact hi) (s:= .sd (coT 0 t d'.1 d'.2).2) ⟨g4 ht,hval g2 g3⟩
     unfold aC at hv
     split at hv
     ·rename_i hag
      obtain ⟨cs,e1,hv⟩:=hv
      refine go hv fun {tk2} hcs hfr=> ?_
      unfold aC
      rw [if_pos (by rw [iL hfr]; exact hag)]
      exact ⟨cs,e1,hcs⟩
     ·rename_i hag
      refine go hv fun {tk2} hcs hfr=> ?_
      unfold aC
      rw [if_neg (by rw [iL hfr]; exact hag)]
      exact hcs
    ·cases hc
   ·cases hc
  ·cases hc
 ·rename_i b t
  split at hc
  ·rename_i hs
   cases hok:uT [] (jL b ⟨.dyn t,(true,[])⟩) with
   |false=>rw [hok] at hc; cases hc
   |true=>
   rw [hok] at hc
   simp only [cond_true,Option.some.injEq] at hc
   subst hc
   obtain ⟨_,_,n3⟩:=rQ hok
   simp only [jL,List.all_cons,Bool.and_eq_true,List.all_nil,Bool.and_true] at n3
   have hlt:b<1000000:=Nat.le_of_ble_eq_true n3.1
   obtain ⟨tk',h1,⟨q,h2,h3,h4⟩,h5⟩:=h.IB (d:=b) (t:=t) (fun j=>by unfold site; omega) n3.2
   have hsl:=h.slots i hi
   rw [hs] at hsl
   have e:tm.getD i undef= .slice none 0 0:=hsl
   refine ⟨I,tk',?_⟩
   rw [dn]
   exact h1.tell (by rw [cu]; exact hi) (s:= .va b t) ⟨q,h2,h3,by rw [e,h4]⟩
  ·exact nil hc
 ·rename_i b t pa
  split at hc
  ·rename_i hs
   cases hok:uT [] (jL b ⟨.dyn t,(true,[])⟩) with
   |false=>rw [hok] at hc; cases hc
   |true=>
   rw [hok] at hc
   simp only [cond_true,Option.some.injEq] at hc
   subst hc
   obtain ⟨_,_,n3⟩:=rQ hok
   simp only [jL,List.all_cons,Bool.and_eq_true,List.all_nil,Bool.and_true] at n3
   have hlt:b<1000000:=Nat.le_of_ble_eq_true n3.1
   obtain ⟨tk',h1,⟨q,h2,h3,h4⟩,h5⟩:=h.IB (d:=b) (t:=t) (fun j=>by unfold site; omega) n3.2
   have hsl:=h.slots i hi
   rw [hs] at hsl
   have e:tm.getD i undef= .slice none 0 0:=hsl
   refine ⟨I,tk',?_⟩
   rw [dn]
   unfold Tk.hdr at h4
   simp only [Value.slice.injEq] at h4
   obtain ⟨k1,k2,k3⟩:=h4
   refine h1.tell (by rw [cu]; exact hi) (s:= .vs b t [] 0 0) ⟨q,h2,.inl ⟨rfl,h3,⟨by omega,by omega⟩,none,by rw [e,k3],fun hq=>by omega,by simp [k1]⟩⟩
  ·rename_i a u hs
   split at hc
   ·rename_i u' x hbx
    simp only [Option.some.injEq] at hc
    subst hc
    have hsl:=h.slots i hi
    rw [hs] at hsl
    obtain ⟨q,h1,h2,h3⟩:=hsl
    obtain ⟨q',h4,h5⟩:=h.boxes a _ hbx
    rw [h1] at h4; cases h4
    obtain ⟨-,-,b3,b4,-,-⟩:=h5
    refine ⟨I,tk,?_⟩
    refine h.tell hi (s:= .vs a u [] 0 x.2.length) ⟨q,h1,.inl ⟨rfl,h2,⟨by omega,by omega⟩,q.ad,by rw [h3]; unfold Tk.hdr; rw [b3]; rfl,fun hq=> ?_,Iff.rfl⟩⟩
    cases q.ad with
    |none=>rfl
    |some ad=>simp [Addr.add]
   ·exact nil hc
  ·exact nil hc
 ·exact nil hc
theorem Jh:∀ {sh:List (Nat×Sh)} {st:St} {I:Nat→Prop} {tk:bg} {ps:List Pm},Inv C st tm w I tk→(∀ p∈sh,p.1<st.sl.length)→QF st sh=some ps→∃ I' tk',Inv C (aV ps st) tm w I' tk':=by
 intro sh
 induction sh with
 |nil=>intro st I tk ps h _ hc; cases hc; exact ⟨I,tk,h⟩
 |cons p sh ih=>
  obtain ⟨i,s⟩:=p
  intro st I tk ps h hl hc
  simp only [QF] at hc
  split at hc
  ·rename_i ps1 h1
   obtain ⟨qs,hq,rfl⟩:=Option.map_eq_some_iff.1 hc
   obtain ⟨I1,tk1,h2⟩:=LY h (hl (i,s) (by simp)) h1
   obtain ⟨I2,tk2,h3⟩:=ih h2 (fun p hp=>by rw [cu]; exact hl p (by simp [hp])) hq
   exact ⟨I2,tk2,by rw [dn]; exact h3⟩
  ·cases hc
theorem Ji:∀ {bx:List (Nat×Ty)} {st:St} {I:Nat→Prop} {tk:bg} {m m':Mt} {ps:List Pm},Inv C st tm w I tk→QG st bx m=some (ps,m')→∃ I' tk',Inv C (aV ps st) tm w I' tk':=by
 intro bx
 induction bx with
 |nil=>intro st I tk m m' ps h hc; cases hc; exact ⟨I,tk,h⟩
 |cons p bx ih=>
  obtain ⟨b,t⟩:=p
  intro st I tk m m' ps h hc
  simp only [QG] at hc
  split at hc
  ·rename_i a ha
   split at hc
   ·rename_i d0 hd0
    split at hc
    ·rename_i fs hfs
     split at hc
     ·rename_i d hd
      cases hok:uT (a::mentions d.1) (coT a t d.1 d.2).1 with
      |false=>rw [hok] at hc; cases hc
      |true=>
      rw [hok] at hc
      simp only [cond_true] at hc
      obtain ⟨z,hz,e⟩:=Option.map_eq_some_iff.1 hc
      simp only [Prod.mk.injEq] at e
      obtain ⟨rfl,rfl⟩:=e
      obtain ⟨I1,tk1,hF⟩:=pQ (View.refl st) h hfs
      obtain ⟨n1,n2,n3⟩:=rQ hok
      obtain ⟨q,hq,hr⟩:=hF.inv.boxes a d hd
      have key:∃ I' tk',Inv C (aV (fs++(coT a t d.1 d.2).1++ [.ins a (coT a t d.1 d.2).2]) st) tm w I' tk':=by
       rw [dn,dn]
       cases htop:d.1.bM with
       |true=>
        obtain ⟨d',e,hr'⟩:=QE (self:=a) (u:=t) htop hr
        rw [e]
        exact ⟨I1,tk1,hF.inv.vR hd hq hr'⟩
       |false=>
        obtain ⟨k1,k2,bb,cs,k3,k4,k5⟩:=(aL.str (t:=d.1) (x:=d.2) htop).1 hr
        obtain ⟨tk2,g1,g2,g3,g4,g5,g6⟩:=Dh a (u:=t) hF.inv k5 n1 n2 n3
        have hna:a∉(coT a t d.1 d.2).1.flatMap Pm.tc:=fun hm=>n2 a hm List.mem_cons_self
        have hq2:tk2 a=some q:=(g5 a hna).trans hq
        have hbx:∃ d2,(aV (coT a t d.1 d.2).1 (aV fs st)).box a=some d2:=by
         exact Dj n3 hd
        obtain ⟨d2,hd2⟩:=hbx
        exact ⟨I1,tk2,g1.vR hd2 hq2 ((aL.str (g4 htop)).2 ⟨by rw [g3]; exact k1,k2,bb,cs,k3,k4,g2⟩)⟩
      obtain ⟨I2,tk2,h2⟩:=key
      obtain ⟨I3,tk3,h3⟩:=ih h2 hz
      exact ⟨I3,tk3,by rw [dn]; exact h3⟩
     ·cases hc
    ·cases hc
   ·cases hc
  ·cases hc
end Go.Own
set_option linter.unusedVariables false
namespace Go.Own
variable {C:Cx} {P:Program} {E:Env} {w w' w2:World} {I I' I1 I2:Nat→Prop} {st sv st':St} {tm:Array Value} {tk tk':bg} {ds:List Deferred} {o:Oper} {R:Type}
structure JB (m:Mt):Prop where
 to:∀ a b b',(a,b)∈m→(a,b')∈m→b=b'
 of:∀ a a' b,(a,b)∈m→(a',b)∈m→a=a'
 ext:∀ a b,(a,b)∈m→1000000≤b→a=b
theorem Cy:∀ {m:Mt},ND m=true→JB m
 | [],_=>⟨fun a b b' h=>(by cases h),fun a a' b h=>(by cases h),fun a b h=>(by cases h)⟩
 |(a,b)::r,h=>by
  simp only [ND,Bool.and_eq_true] at h
  obtain ⟨⟨h1,h2⟩,h3⟩:=h
  have ih:=Cy h3
  have h1:∀ p∈r,(p.1=a→p.2=b)∧(p.2=b→p.1=a):=by
   intro p hp
   have:=List.all_eq_true.1 h1 p hp
   cases hb:Nat.beq p.1 a with
   |true=>rw [hb] at this; exact ⟨fun _=>beq_iff.1 this,fun _=>beq_iff.1 hb⟩
   |false=>
    rw [hb] at this
    simp only [cond_false,Bool.not_eq_true'] at this
    exact ⟨fun e=>absurd e (eU.1 hb),fun e=>absurd e (eU.1 this)⟩
  refine ⟨fun x y y' hx hy=> ?_,fun x x' y hx hy=> ?_,fun x y hx hxy=> ?_⟩
  ·rcases List.mem_cons.1 hx with e|hx<;>rcases List.mem_cons.1 hy with e'|hy
   ·cases e; cases e'; rfl
   ·cases e; exact ((h1 _ hy).1 rfl).symm
   ·cases e'; exact (h1 _ hx).1 rfl
   ·exact ih.to x y y' hx hy
  ·rcases List.mem_cons.1 hx with e|hx<;>rcases List.mem_cons.1 hy with e'|hy
   ·cases e; cases e'; rfl
   ·cases e; exact ((h1 _ hy).2 rfl).symm
   ·cases e'; exact (h1 _ hx).2 rfl
   ·exact ih.of x x' y hx hy
  ·rcases List.mem_cons.1 hx with e|hx
   ·cases e
    have:Nat.ble 1000000 b=true:=by rw [Nat.ble_eq]; exact hxy
    rw [this] at h2
    exact beq_iff.1 h2
   ·exact ih.ext x y hx hxy
theorem wF {m:Mt} {a b:Nat} (h:BP m b=some a):(a,b)∈m:=by
 unfold BP at h
 obtain ⟨p,hp,rfl⟩:=Option.map_eq_some_iff.1 h
 have h1:=List.find?_some hp
 have h2:=List.mem_of_find?_eq_some hp
 rw [← beq_iff.1 h1]; exact h2
theorem NF {m:Mt} (hm:JB m) {a b:Nat} (h:(a,b)∈m):BP m b=some a:=by
 cases hf:BP m b with
 |none=>
  unfold BP at hf
  simp only [Option.map_eq_none_iff,List.find?_eq_none] at hf
  exact absurd (beq_iff.2 rfl) (hf (a,b) h)
 |some a'=>rw [hm.of a' a b (wF hf) h]
theorem NE {m:Mt} (hm:JB m) {a b:Nat} (h:(a,b)∈m):Ah m a=b:=by
 unfold Ah
 cases hf:m.find? fun p=>Nat.beq p.1 a with
 |none=>rw [List.find?_eq_none] at hf; exact absurd (beq_iff.2 rfl) (hf (a,b) h)
 |some p=>
  have h0:Nat.beq p.1 a=true:=List.find?_some (p:=fun q:Nat×Nat=>Nat.beq q.1 a) hf
  have h1:=beq_iff.1 h0
  have h2:=List.mem_of_find?_eq_some hf
  exact hm.to a p.2 b (by rw [← h1]; exact h2) h
theorem wH {m:Mt} {a b:Nat} (h:inM m a b=true):(a,b)∈m:=by
 unfold inM at h
 obtain ⟨p,hp,h1⟩:=List.any_eq_true.1 h
 simp only [Bool.and_eq_true] at h1
 rw [← beq_iff.1 h1.1,← beq_iff.1 h1.2]; exact hp
def tkM (m:Mt) (tk:bg):bg:=fun b=>(BP m b).bind tk
theorem ul {m:Mt} (hm:JB m) {a b:Nat} (h:(a,b)∈m):tkM m tk b=tk a:=by
 unfold tkM; rw [NF hm h]; rfl
theorem KD {m:Mt} (hm:JB m) {t:Ty} (h:allM m t=true):∀ s∈mentions t,tkM m tk (Ah m s)=tk s:=by
 intro s hs
 have:=List.all_eq_true.1 h s hs
 obtain ⟨p,hp,h1⟩:=List.any_eq_true.1 this
 have e:=beq_iff.1 h1
 have hm2:(s,p.2)∈m:=by rw [← e]; exact hp
 rw [NE hm hm2]
 exact ul hm hm2
theorem DL {m:Mt} (hm:JB m):∀ {cs:List SV} {caps:List (Nat×Ty)},qU m cs caps=true→cs.length=caps.length∧∀ (j:Nat) (c:SV) (p:Nat×Ty) (x:Value),cs[j]?=some c→caps[j]?=some p→dB w I tk c x→dB w I (tkM m tk) (.pb p.1 p.2 []) x:=by
 intro cs
 induction cs with
 |nil=>
  intro caps h
  cases caps with
  |nil=>exact ⟨rfl,fun j c p x h=>by simp at h⟩
  |cons=>simp [qU] at h
 |cons v cs ih=>
  intro caps h
  unfold qU at h
  split at h
  ·rename_i e; cases e
  ·rename_i s t r s' t' q e1
   cases e1
   simp only [Bool.and_eq_true,decide_eq_true_eq] at h
   obtain ⟨⟨h1,rfl⟩,h3⟩:=h
   obtain ⟨i1,i2⟩:=ih h3
   refine ⟨by simp [i1],fun j c p x hc hp hr=> ?_⟩
   cases j with
   |zero=>
    simp at hc hp
    subst hc; subst hp
    obtain ⟨k,b,off,g1,g2⟩:=hr
    exact ⟨k,b,off,(ul hm (wH h1)).trans g1,g2⟩
   |succ j=>exact i2 j c p x (by simpa using hc) (by simpa using hp) hr
  ·cases h
theorem Nb {m:Mt} (hm:JB m) {s:Sh} {v:SV} {y:s.den} {x:Value} (h:s.proj m v=some y) (hr:bE w I tk v x):bE w I (tkM m tk) (s.inj y) x:=by
 cases s<;>cases v<;>simp only [Sh.proj,reduceCtorEq] at h
 case p.p t d=>
  obtain ⟨u,z⟩:=d
  simp only at h
  split at h
  ·rename_i e; subst e; cases h; exact ⟨hr.1,hr.2.plain hr.1⟩
  ·cases h
 case sd.sd t d=>
  cases ha:allM m d.1 with
  |false=>rw [ha] at h; cases h
  |true=>
   rw [ha] at h
   simp only [cond_true] at h
   have:=dB.ren (tk':=tkM m tk) (ρ:=Ah m) (v:= .sd d) (v':= .sd (d.ren (Ah m))) (KD hm ha) rfl hr
   generalize hd:d.ren (Ah m)=d' at h this
   obtain ⟨u,z⟩:=d'
   simp only at h
   split at h
   ·rename_i e; subst e; cases h; exact this
   ·cases h
 case va.va b t a u=>
  cases ha:(inM m a b&&decide (t=u)) with
  |false=>rw [ha] at h; cases h
  |true=>
   simp only [Bool.and_eq_true,decide_eq_true_eq] at ha
   obtain ⟨h1,rfl⟩:=ha
   obtain ⟨q,g1,g2⟩:=hr
   exact ⟨q,(ul hm (wH h1)).trans g1,g2⟩
 case vs.vs b t pa a u qa lo n=>
  cases ha:(inM m a b&&decide (t=u)&&decide (pa=qa)) with
  |false=>rw [ha] at h; cases h
  |true=>
   rw [ha] at h
   simp only [Bool.and_eq_true,decide_eq_true_eq] at ha
   obtain ⟨⟨h1,rfl⟩,rfl⟩:=ha
   cases h
   obtain ⟨q,g1,g2⟩:=hr
   exact ⟨q,(ul hm (wH h1)).trans g1,g2⟩
 case pb.pb b t pa a u qa=>
  cases ha:(inM m a b&&decide (t=u)&&decide (pa=qa)) with
  |false=>rw [ha] at h; cases h
  |true=>
   simp only [Bool.and_eq_true,decide_eq_true_eq] at ha
   obtain ⟨⟨h1,rfl⟩,rfl⟩:=ha
   obtain ⟨k,bb,off,g1,g2⟩:=hr
   exact ⟨k,bb,off,(ul hm (wH h1)).trans g1,g2⟩
 case mp.mp b k z a k' z'=>
  cases ha:(inM m a b&&decide (k=k')&&decide (z=z')) with
  |false=>rw [ha] at h; cases h
  |true=>
   simp only [Bool.and_eq_true,decide_eq_true_eq] at ha
   obtain ⟨⟨h1,rfl⟩,rfl⟩:=ha
   obtain ⟨q,bb,g1,g2⟩:=hr
   exact ⟨q,bb,(ul hm (wH h1)).trans g1,g2⟩
 case nil.nil=>exact hr
 case nilp.nilp=>exact hr
 case clo.clo f caps g cs=>
  cases ha:(Nat.beq f g&&qU m cs caps) with
  |false=>rw [ha] at h; cases h
  |true=>
   simp only [Bool.and_eq_true] at ha
   obtain ⟨h1,h2⟩:=ha
   have e:=beq_iff.1 h1
   obtain ⟨vs,g1,g2,g3⟩:=hr
   obtain ⟨k1,k2⟩:=DL (w:=w) (I:=I) (tk:=tk) hm h2
   refine ⟨vs,by rw [g1]; show Value.func (.func g) #[] vs= .func (.func f) #[] vs; rw [e],by simp [g2,k1],fun j c z hc hz=> ?_⟩
   rw [List.getElem?_map] at hc
   obtain ⟨p,hp,rfl⟩:=Option.map_eq_some_iff.1 hc
   have hj:=(List.getElem?_eq_some_iff.1 hp).1
   have hcj:cs[j]?=some cs[j]:=List.getElem?_eq_getElem (by omega)
   exact k2 j _ p z hcj hp (g3 j _ z hcj hz)
theorem LD (sh:List (Nat×Sh)) (x:ShX sh):∀ (n i j:Nat),(uV sh x n i)[j]?=if j<n then some (IL sh x (i+j)) else none:=by
 intro n
 induction n with
 |zero=>intro i j; simp [uV]
 |succ n ih=>
  intro i j
  cases j with
  |zero=>simp [uV]
  |succ j=>
   simp only [uV,List.getElem?_cons_succ,ih,Nat.succ_lt_succ_iff]
   rw [show i+1+j=i+(j+1) by omega]
theorem ni (sh:List (Nat×Sh)) (x:ShX sh):∀ (n i:Nat),(uV sh x n i).length=n
 |0,_=>rfl
 |n+1,i=>by simp only [uV,List.length_cons,ni sh x n]
theorem AJ {m:Mt}:∀ {sh:List (Nat×Sh)} {x:ShX sh},JQ m st sh=some x→∀ j,IL sh x j= .dead∨∃ (s:Sh) (y:s.den),IL sh x j=s.inj y∧s.proj m (st.slot j)=some y
 | [],_,_,_=> .inl rfl
 |(i,s)::sh,x,h,j=>by
  simp only [JQ] at h
  split at h
  ·rename_i a y h1 h2
   cases h
   simp only [IL]
   cases hb:Nat.beq i j with
   |true=>exact .inr ⟨s,a,rfl,by rw [← beq_iff.1 hb]; exact h1⟩
   |false=>exact AJ h2 j
  ·cases h
theorem tJ {m:Mt}:∀ {bx:List (Nat×Ty)} {y:BxX bx},JR m st bx=some y→∀ {s:Nat} {d:DV},eH (AO bx y) s=some d→∃ a d0,BP m s=some a∧st.box a=some d0∧allM m d0.1=true∧d0.ren (Ah m)=d
 | [],_,_,s,d,h=>by cases h
 |(b,t)::bx,y,hp,s,d,h=>by
  simp only [JR] at hp
  split at hp
  ·rename_i d0 z h1 h2
   cases ha:allM m d0.1 with
   |false=>rw [ha] at hp; cases hp
   |true=>
    rw [ha] at hp
    simp only [cond_true] at hp
    generalize hd:d0.ren (Ah m)=d' at hp
    obtain ⟨u,zz⟩:=d'
    simp only at hp
    split at hp
    ·rename_i e
     subst e
     cases hp
     simp only [AO,eH] at h
     cases hb:Nat.beq b s with
     |true=>
      rw [hb] at h
      have:=beq_iff.1 hb
      subst this
      cases h
      obtain ⟨a,h3,h4⟩:=Option.bind_eq_some_iff.1 h1
      exact ⟨a,d0,h3,h4,ha,hd⟩
     |false=>rw [hb] at h; exact tJ h2 h
    ·cases hp
  ·cases hp
theorem AL:∀ (bx:List (Nat×Ty)) (y:BxX bx),(AO bx y).map (·.1)=bx.map (·.1)
 | [],_=>rfl
 |(s,t)::bx,y=>by simp only [AO,List.map_cons,AL bx y.2]
def QL:List Nat→Bool
 | []=>true
 |a::r=>r.all (Nat.blt a)&&QL r
theorem Dl:∀ {l:List Nat},QL l=true→l.Pairwise (· < ·)
 | [],_=>List.Pairwise.nil
 |a::r,h=>by
  simp only [QL,Bool.and_eq_true] at h
  exact List.pairwise_cons.2 ⟨fun x hx=>Nat.le_of_ble_eq_true (List.all_eq_true.1 h.1 x hx),Dl h.2⟩
def K4 (n:Nat) (sh:List (Nat×Sh)) (bx:List (Nat×Ty)):Bool:=(sh.all fun p=>Nat.blt p.1 n)&&QL (bx.map (·.1))
theorem qm {n:Nat} {sh:List (Nat×Sh)} {bx ord:List (Nat×Ty)} {x:ShX sh} {y:BxX bx} (hok:K4 n sh bx=true) (hn:st.sl.length=n) (h:Inv C st tm w I tk) (hp:Co st sh bx ord=some (x,y)):
  ∃ I' tk',Inv C (inj n sh bx x y) tm w I' tk':=by
 unfold K4 at hok
 simp only [Bool.and_eq_true] at hok
 obtain ⟨hk,hs⟩:=hok
 unfold Co at hp
 split at hp
 ·rename_i ps hps
  dsimp only at hp
  split at hp
  ·rename_i qs m hqs
   obtain ⟨I1,tk1,h1⟩:=Jh h (fun p hp=>by rw [hn]; exact Nat.le_of_ble_eq_true (List.all_eq_true.1 hk p hp)) hps
   obtain ⟨I2,tk2,h2⟩:=Ji h1 hqs
   cases hm:ND m with
   |false=>rw [hm] at hp; cases hp
   |true=>
    rw [hm] at hp
    simp only [cond_true] at hp
    have hM:=Cy hm
    split at hp
    ·rename_i x' y' hx hy
     cases hp
     have hlen:(aV qs (aV ps st)).sl.length=n:=by rw [cu,cu,hn]
     refine ⟨I2,tkM m tk2,h2.into (fun b=>(BP m b).getD b) ?_ ?_ ?_ ?_ ?_ ?_ ?_ ?_⟩
     ·show (uV sh x n 0).length=tm.size
      rw [ni,← h2.len,hlen]
     ·show (uV sh x n 0).length≤900000
      rw [ni,← hlen]; exact h2.small
     ·show ((AO bx y).map (·.1)).Pairwise (· < ·)
      rw [AL]; exact Dl hs
     ·intro i hi
      have hi':i<n:=by rw [← ni sh x n 0]; exact hi
      have e:(inj n sh bx x y).slot i=IL sh x i:=by
       unfold St.slot inj
       simp only [List.getD_eq_getElem?_getD,LD,if_pos hi',Nat.zero_add,Option.getD_some]
      rw [e]
      rcases AJ hx i with e2|⟨s,z,e2,e3⟩
      ·rw [e2]; exact bE.of1 (v:= .dead) trivial
      ·rw [e2]; exact Nb hM e3 (h2.slots i (by rw [hlen]; exact hi'))
     ·intro s d hd
      obtain ⟨a,d0,g1,g2,g3,rfl⟩:=tJ hy hd
      obtain ⟨q,g4,g5⟩:=h2.boxes a d0 g2
      exact ⟨q,by unfold tkM; rw [g1]; exact g4,g5.ren (Ah m) (KD hM g3)⟩
     ·intro s q hq
      unfold tkM at hq
      obtain ⟨a,g1,g2⟩:=Option.bind_eq_some_iff.1 hq
      rw [g1]; exact g2
     ·intro s s' q q' hq hq' he
      unfold tkM at hq hq'
      obtain ⟨a,g1,_⟩:=Option.bind_eq_some_iff.1 hq
      obtain ⟨a',g1',_⟩:=Option.bind_eq_some_iff.1 hq'
      rw [g1,g1'] at he
      simp only [Option.getD_some] at he
      subst he
      exact hM.to a s s' (wF g1) (wF g1')
     ·intro j q hj d hd
      obtain ⟨a,d0,g1,g2,_,_⟩:=tJ hy hd
      have e:=hM.ext a (site j) (wF g1) (by unfold site; omega)
      subst e
      unfold tkM
      rw [g1]
      exact h2.ext j q hj d0 g2
    ·cases hp
  ·cases hp
 ·cases hp
end Go.Own
set_option linter.unusedVariables false
namespace Go.Own
variable {C:Cx} {P:Program} {E:Env} {w w' w2:World} {I I' I1 I2:Nat→Prop} {st sv st':St} {tm:Array Value} {tk tk':bg} {ds:List Deferred} {o:Oper} {R:Type}
def Gq {X Y U V R:Type} (step:X→Y→(X→Y→Option R)→(Nat→X→Y→Option R)→(U→V→Option R)→Option R):Nat→X→Y→(Nat→X→Y→Option R)→(U→V→Option R)→Option R
 |0,_,_,_,_=>none
 |q+1,x,y,ke,kr=>step x y (fun x' y'=>Gq step q x' y' ke kr) ke kr
def dN {R:Type} (sh:List (Nat×Sh)) (bx ord:List (Nat×Ty)) (shR:List (Nat×Sh)) (bxR ordR:List (Nat×Ty)) (kn:ShX sh→BxX bx→Option R) (ke:Nat→ShX sh→BxX bx→Option R) (kr:ShX shR→BxX bxR→Option R):Ex→St→Option R
 | .normal,st=>match Co st sh bx ord with|some (x,y)=>kn x y|none=>none
 | .exit id,st=>match Co st sh bx ord with|some (x,y)=>ke id x y|none=>none
 | .ret,st=>match Co st shR bxR ordR with|some (x,y)=>kr x y|none=>none
structure Told {R:Type} (E:Env) (D:aP) (tab:List (Nat×LE R)) (N:Nat) (body:Code) (n:Nat) (sh:List (Nat×Sh)) (bx ord:List (Nat×Ty)) (shR:List (Nat×Sh)) (bxR:List (Nat×Ty))
  (F:ShX sh→BxX bx→(Nat→ShX sh→BxX bx→Option R)→(ShX shR→BxX bxR→Option R)→Option R) where
 m:Nat
 hn:n=N
 ok:K4 n sh bx=true
 okR:K4 n shR bxR=true
 ordR:List (Nat×Ty)
 step:ShX sh→BxX bx→(ShX sh→BxX bx→Option R)→(Nat→ShX sh→BxX bx→Option R)→(ShX shR→BxX bxR→Option R)→Option R
 round:∀ x y kn ke kr,d9 E D (aJ E D tab m) body (inj n sh bx x y) (dN sh bx ord shR bxR ordR kn ke kr)=step x y kn ke kr
 comes:∀ x y ke kr r,F x y ke kr=some r→∃ q,Gq step q x y ke kr=some r
theorem KV {D:aP} {tab:List (Nat×LE R)} {r:R} {N n:Nat} {body:Code} {sh:List (Nat×Sh)} {bx ord:List (Nat×Ty)} {shR:List (Nat×Sh)} {bxR:List (Nat×Ty)} {F:ShX sh→BxX bx→(Nat→ShX sh→BxX bx→Option R)→(ShX shR→BxX bxR→Option R)→Option R}
  (hE:eP C.P E) (hD:kJ C.P D) (T:Told E D tab N body n sh bx ord shR bxR F) (hL:∀ b∈fE body,xg r C ds N (aJ E D tab T.m) b)
  {k:Ex→St→Option R} {Q:Exit→Act→World→Prop} (hd:lC N body=true) (hf:fH n sh bx ord shR bxR F st k=some r) (hn:st.sl.length=N) (h:Inv C st tm w I tk) (hk:KL C ds N r k Q):
  (Code.loop body).wp C.P Q ⟨tm,ds⟩ w:=by
 unfold fH at hf
 split at hf
 ·rename_i x y hp
  obtain ⟨q,hq⟩:=T.comes _ _ _ _ _ hf
  obtain ⟨I2,tk2,hi⟩:=qm T.ok (hn.trans T.hn.symm) h hp
  clear h hp hf hn
  refine wp_loop_rounds q ?_
  induction q generalizing x y tm w I2 tk2 with
  |zero=>cases hq
  |succ q ih=>
   rw [rounds_succ]
   simp only [Gq] at hq
   rw [← T.round] at hq
   have hlen:(inj n sh bx x y).sl.length=N:=by rw [← T.hn]; exact ni sh x n 0
   refine tO hE hD body hL hd hq hlen hi ?_
   intro ex st1 tm1 w1 I1 tk1 e1 e2 e3
   have e2':st1.sl.length=n:=e2.trans T.hn.symm
   cases ex with
   |normal=>
    simp only [dN] at e1
    split at e1
    ·rename_i x' y' hp
     obtain ⟨I3,tk3,h3⟩:=qm T.ok e2' e3 hp
     exact ih x' y' e1 I3 tk3 h3
    ·cases e1
   |exit i=>
    simp only [dN] at e1
    split at e1
    ·rename_i x' y' hp
     obtain ⟨I3,tk3,h3⟩:=qm T.ok e2' e3 hp
     exact hk (.exit i) _ _ _ _ _ e1 (by rw [← T.hn]; exact ni sh x' n 0) h3
    ·cases e1
   |ret=>
    simp only [dN] at e1
    split at e1
    ·rename_i x' y' hp
     obtain ⟨I3,tk3,h3⟩:=qm T.okR e2' e3 hp
     exact hk .ret _ _ _ _ _ e1 (by rw [← T.hn]; exact ni shR x' n 0) h3
    ·cases e1
 ·cases hf
def fQ {R:Type} (E:Env) (D:aP) (tab:List (Nat×LE R)) (N:Nat) (c:Code):Prop:=
 ∀ body∈fE c,∀ L,mR tab (rid body)=some (.typed L)→∃ n sh bx ord shR bxR F,L=fH n sh bx ord shR bxR F∧Nonempty (Told E D tab N body n sh bx ord shR bxR F)
theorem IC {D:aP} {tab:List (Nat×LE R)} {r:R} {N:Nat} (hE:eP C.P E) (hD:kJ C.P D):∀ (c:Code),fQ E D tab N c→∀ m,∀ body∈fE c,xg r C ds N (aJ E D tab m) body:=by
 intro c
 induction c with
 |seq a b iha ihb=>
  intro hT m body hb
  rcases List.mem_append.1 hb with hb|hb
  ·exact iha (fun x hx=>hT x (by simp [fE,hx])) m body hb
  ·exact ihb (fun x hx=>hT x (by simp [fE,hx])) m body hb
 |cond q a b iha ihb=>
  intro hT m body hb
  rcases List.mem_append.1 hb with hb|hb
  ·exact iha (fun x hx=>hT x (by simp [fE,hx])) m body hb
  ·exact ihb (fun x hx=>hT x (by simp [fE,hx])) m body hb
 |block id a iha=>intro hT m body hb; exact iha hT m body hb
 |scope a iha=>intro hT m body hb; exact iha hT m body hb
 |loop a iha=>
  intro hT m body hb
  have iha:=iha fun x hx=>hT x (by simp [fE,hx])
  rcases List.mem_cons.1 hb with rfl|hb
  ·intro j st tm w I tk k Q hd hf hn h hk
   cases m with
   |zero=>cases hf
   |succ m=>
    simp only [aJ] at hf
    split at hf
    ·rename_i L hL
     obtain ⟨n,sh,bx,ord,shR,bxR,F,rfl,⟨T⟩⟩:=hT body (by simp [fE]) L hL
     exact KV hE hD T (iha T.m) hd hf hn h hk
    ·exact Ak hE hD (iha m) _ hd hf hn h hk
    ·exact Ak hE hD (iha m) _ hd hf hn h hk
  ·intro j st tm w I tk k Q; exact iha m body hb
 |_=>intro hT m body hb; cases hb
end Go.Own
set_option linter.unusedVariables false
namespace Go.Own
variable {C:Cx} {P:Program} {E:Env} {w w' w2:World} {I I' I1 I2:Nat→Prop} {st sv st':St} {tm:Array Value} {tk tk':bg} {ds:List Deferred} {o:Oper} {R:Type}
theorem Jc {n:Nat} {as:List AV} {bs:List DV} {args:Array Value} (h:Inv C (jq as bs) args w I tk) (hn:as.length≤n) (hs:n≤900000):
  Inv C (st0 [] n as bs) (args++Array.replicate (n - args.size) undef) w I tk:=by
 have hl:as.length=args.size:=by have:=h.len; simpa [jq] using this
 have hlen:(st0 [] n as bs).sl.length=n:=by simp [st0]; omega
 have hbox:∀ s,(st0 [] n as bs).box s=(jq as bs).box s:=fun s=>rfl
 refine h.into (fun s=>s) ?_ ?_ h.srt ?_ (fun s d hs=>h.boxes s d hs) (fun _ _ h=>h) (fun _ _ _ _ _ _ e=>e) (fun j q hj d hd=>h.ext j q hj d hd)
 ·rw [hlen]; simp; omega
 ·rw [hlen]; exact hs
 ·intro i hi
  rw [hlen] at hi
  rcases Nat.lt_or_ge i as.length with h1|h1
  ·have hsl:(st0 [] n as bs).slot i=(jq as bs).slot i:=by
    unfold St.slot st0 jq
    simp only [List.getD_eq_getElem?_getD]
    rw [List.getElem?_append_left (by simpa using h1)]
   have hia:i<args.size:=by omega
   have hv:(args++Array.replicate (n - args.size) undef).getD i undef=args.getD i undef:=by
    have h2:i<(args++Array.replicate (n - args.size) undef).size:=by simp; omega
    have:(args++Array.replicate (n - args.size) undef)[i]=args[i]:=Array.getElem_append_left hia
    simp only [Array.getD,h2,hia,dif_pos]
    exact this
   rw [hsl,hv]
   exact h.slots i (by simpa [jq] using h1)
  ·have hsl:(st0 [] n as bs).slot i= .dead:=by
    unfold St.slot st0
    simp only [List.getD_eq_getElem?_getD]
    rw [List.getElem?_append_right (by simpa using h1),List.getElem?_replicate]
    split<;>rfl
   rw [hsl]
   exact bE.of1 (v:= .dead) trivial
theorem Qr {s:Nat} {d:DV}:∀ {l:List (Nat×DV)},(∀ x∈l,s<x.1)→rU s d l=(s,d)::l
 | [],_=>rfl
 |(i,a)::l,h=>by
  have h1:=h (i,a) List.mem_cons_self
  have h2:Nat.beq i s=false:=eU.2 (by have:s<i:=h1; omega)
  have h3:Nat.blt s i=true:=Nat.ble_eq_true_of_le (show s+1≤i from h1)
  simp only [rU,h2,h3,cond_true,cond_false]
theorem LU {n:Nat} {as:List AV} {bs:List DV} {args:Array Value} (h:Inv C (jq as bs) args w I tk) (hn:as.length≤n) (hs:n≤900000):∀ {l:List (Nat×Ty)},wC l=true→(l.isEmpty||J7 as bs)=true→
  ∃ tk',Inv C (st0 l n as bs) (args++Array.replicate (n - args.size) undef) w I tk':=by
 intro l
 induction l with
 |nil=>intro _ _; exact ⟨tk,Jc h hn hs⟩
 |cons p r ih=>
  obtain ⟨s,t⟩:=p
  intro hp hlow
  simp only [wC,Bool.and_eq_true,List.all_eq_true] at hp
  obtain ⟨⟨⟨h1,h2⟩,h3⟩,h4⟩:=hp
  simp only [List.isEmpty_cons,Bool.false_or] at hlow
  obtain ⟨tk1,hi⟩:=ih h4 (by rw [hlow,Bool.or_true])
  have hs1:s<1000000:=Nat.le_of_ble_eq_true h1
  unfold J7 at hlow
  simp only [Bool.and_eq_true,List.all_eq_true] at hlow
  obtain ⟨ha,hb⟩:=hlow
  have hge:∀ {x:Nat},Nat.ble 1000000 x=true→x≠s:=fun h=>by have:=Nat.le_of_ble_eq_true h; omega
  have hins:st0 ((s,t)::r) n as bs=(st0 r n as bs).gF s ⟨.pool t,[]⟩:=by
   unfold st0 St.gF
   rw [Qr]
   ·rfl
   ·intro x hx
    rcases List.mem_append.1 hx with hx|hx
    ·unfold yZ at hx
     obtain ⟨y,hy,rfl⟩:=List.mem_map.1 hx
     exact Nat.le_of_ble_eq_true (h3 y hy)
    ·have:=(lT bs 0).2 x.1 (List.mem_map.2 ⟨x,hx,rfl⟩)
     unfold site at this; omega
  have hfree:(st0 r n as bs).free s:=by
   constructor
   ·intro i hil hm
    have hsl:(st0 r n as bs).slot i=(st0 [] n as bs).slot i:=rfl
    rw [hsl] at hm
    unfold St.slot st0 at hm
    simp only [List.getD_eq_getElem?_getD] at hm
    rcases Nat.lt_or_ge i as.length with h5|h5
    ·rw [List.getElem?_append_left (by simpa using h5),List.getElem?_map,List.getElem?_eq_getElem h5] at hm
     simp only [Option.map_some,Option.getD_some] at hm
     have hav:(Jr as[i]).dY=wV as[i]:=by
      cases as[i]<;>first|rfl|skip
      rename_i f caps
      show (caps.map Br).flatMap SV.sites=caps.flatMap rA
      rw [List.flatMap_map]
      congr 1
      funext a
      cases a<;>rfl
     rw [hav] at hm
     exact hge (ha s (List.mem_flatMap.2 ⟨as[i],List.getElem_mem h5,hm⟩)) rfl
    ·rw [List.getElem?_append_right (by simpa using h5),List.getElem?_replicate] at hm
     split at hm<;>simp [SV.dY,SV.sites] at hm
   ·intro q d hq hbx hm
    have hbx':eH (yZ r++fP 0 bs) q=some d:=hbx
    have mem:∀ (l:List (Nat×DV)),eH l q=some d→(q,d)∈l:=by
     intro l
     induction l with
     |nil=>intro h; cases h
     |cons y l ihl=>
      intro h
      obtain ⟨i,a⟩:=y
      simp only [eH] at h
      cases hbq:Nat.beq i q with
      |true=>rw [hbq] at h; cases h; rw [beq_iff.1 hbq]; exact List.mem_cons_self
      |false=>rw [hbq] at h; exact List.mem_cons_of_mem _ (ihl h)
    rcases List.mem_append.1 (mem _ hbx') with hx|hx
    ·unfold yZ at hx
     obtain ⟨y,hy,e⟩:=List.mem_map.1 hx
     cases e
     simp [mentions] at hm
    ·have:d∈bs:=by
      have aux:∀ (l:List DV) (j:Nat),(q,d)∈fP j l→d∈l:=by
       intro l
       induction l with
       |nil=>intro j h; simp [fP] at h
       |cons y l ihl=>
        intro j h
        simp only [fP,List.mem_cons] at h
        rcases h with h|h
        ·cases h; exact List.mem_cons_self
        ·exact List.mem_cons_of_mem _ (ihl _ h)
      exact aux bs 0 hx
     exact hge (hb s (List.mem_flatMap.2 ⟨d,this,hm⟩)) rfl
  rw [hins]
  have no:∀ b,¬ (⟨none,0,none,0,0,.pool t,0,[]⟩:Tk).own b:=fun b hb=>by rw [Tk.uy rfl] at hb; cases hb
  exact ⟨_,hi.xJ (s:=s) (fun j=>by unfold site; omega) hfree (q:=⟨none,0,none,0,0,.pool t,0,[]⟩) (by simp [mentions]) (fun b hb=>(no b hb).elim) (fun b hb=>(no b hb).elim) ⟨rfl,h2,rfl,rfl,fun k r f x hr=>by simp at hr,fun k r fx hr=>by simp at hr⟩⟩
theorem Ls {T:TypeId} {v u:Value} (h:(Instr.loadAt T v).run P w= .ok u w):(do loadVar T (← asAddr v):Sem Value).run P w= .ok u w:=by
 unfold Instr.loadAt at h
 cases v with
 |pointer a=>
  cases a with
  |some a=>simpa [Instr.sureAddr,asAddr] using h
  |none=>simp [Instr.sureAddr] at h
 |_=>simp [Instr.sureAddr] at h
def DR (tm:Array Value):ResultVar→Sem Value
 | .tmp t=>pure (tm.getD t undef)
 | .cell a t=>do loadVar t (← asAddr (tm.getD a undef))
theorem Fq (h:Inv C st tm w I tk) (t:Nat):bE w I tk (st.slot t) (tm.getD t undef):=by
 rcases Nat.lt_or_ge t st.sl.length with h1|h1
 ·exact h.slots t h1
 ·rw [DF st t h1]; exact bE.of1 (v:= .dead) trivial
theorem Ik (hE:eP C.P E) (h:Inv C st tm w I tk) {rv:ResultVar} {x:SV} (hr:qV E st rv=some x):∃ v,(DR tm rv).run C.P w= .ok v w∧bE w I tk x v:=by
 cases rv with
 |tmp t=>
  refine ⟨tm.getD t undef,rfl,?_⟩
  have hs:=Fq h t
  simp only [qV,Option.some.injEq] at hr
  subst hr
  split
  ·exact bE.of1 (v:= .dead) trivial
  ·exact hs
 |cell a T=>
  simp only [qV] at hr
  split at hr
  ·rename_i t v hl
   cases hT:E.isT T t with
   |false=>rw [hT] at hr; cases hr
   |true=>
    rw [hT] at hr
    simp only [cond_true,Option.some.injEq] at hr
    subst hr
    obtain ⟨u,hu,hrv⟩:=yI hE (View.refl st) h (Fq h a) hl (vF hE hT)
    exact ⟨u,Ls hu,hrv⟩
  ·cases hr
theorem FE (hE:eP C.P E) (h:Inv C st tm w I tk):∀ {l:List ResultVar} {rs:List SV},l.mapM (qV E st)=some rs→
  ∃ vs:List Value,(l.mapM (DR tm)).run C.P w= .ok vs w∧vs.length=rs.length∧∀ (j:Nat) (x:SV) (v:Value),rs[j]?=some x→vs[j]?=some v→bE w I tk x v:=by
 intro l
 induction l with
 |nil=>intro rs hr; simp at hr; subst hr; exact ⟨[],rfl,rfl,by simp⟩
 |cons r l ih=>
  intro rs hr
  simp only [List.mapM_cons,Option.bind_eq_bind,Option.pure_def] at hr
  obtain ⟨x,e1,hr⟩:=Option.bind_eq_some_iff.1 hr
  obtain ⟨xs,e2,hr⟩:=Option.bind_eq_some_iff.1 hr
  cases hr
  obtain ⟨v,hv,hrep⟩:=Ik hE h e1
  obtain ⟨vs,hvs,hl,hget⟩:=ih e2
  refine ⟨v::vs,?_,by simp [hl],fun j y u hj hu=> ?_⟩
  ·rw [List.mapM_cons,Sem.run_bind,hv]
   simp only [Result.andThen_ok]
   rw [Sem.run_bind,hvs]; rfl
  ·cases j with
   |zero=>simp at hj hu; subst hj; subst hu; exact hrep
   |succ j=>exact hget j y u (by simpa using hj) (by simpa using hu)
theorem K9 {ρ:Nat→Nat} {fs:List Pm}:∀ {vs:List SV} {Ts:List TypeId} {fz:List Bool} {rs:List RV},Ci E ρ fs Ts fz vs=some rs→rs.length=vs.length∧
  ∀ (k:Nat) (r:RV),rs[k]?=some r→∃ v,vs[k]?=some v∧((∃ T d,mU (E.T T) (qh fs v)=some d∧r= .val d)∨zQ ρ (qh fs v)=some r):=by
 intro vs
 induction vs with
 |nil=>intro Ts fz rs h; simp only [Ci,Option.some.injEq] at h; subst h; simp
 |cons v vs ih=>
  intro Ts fz rs h
  simp only [Ci] at h
  split at h
  ·rename_i r rs' e1 e2
   cases h
   obtain ⟨h1,h2⟩:=ih e2
   refine ⟨by simp [h1],fun k b hk=> ?_⟩
   cases k with
   |zero=>
    simp at hk; subst hk
    refine ⟨v,rfl,?_⟩
    cases hf:fz.headD true with
    |true=>
     rw [hf] at e1
     simp only [cond_true] at e1
     obtain ⟨d,hd,rfl⟩:=Option.map_eq_some_iff.1 e1
     exact .inl ⟨_,d,hd,rfl⟩
    |false=>rw [hf] at e1; exact .inr e1
   |succ k=>simpa using h2 k b (by simpa using hk)
  ·cases h
theorem Db (ρ:Nat→Nat) (st:St):∀ (n j i:Nat),(qA ρ st j n)[i]?=if i<n then some ((st.box (site (j+i))).map (DV.ren ρ)) else none:=by
 intro n
 induction n with
 |zero=>intro j i; simp [qA]
 |succ n ih=>
  intro j i
  cases i with
  |zero=>simp [qA]
  |succ i=>
   simp only [qA,List.getElem?_cons_succ,ih,Nat.succ_lt_succ_iff]
   rw [show j+1+i=j+(i+1) by omega]
theorem xU (ρ:Nat→Nat) (st:St):∀ (n j:Nat),(qA ρ st j n).length=n
 |0,_=>rfl
 |n+1,j=>by simp only [qA,List.length_cons,xU ρ st n]
theorem uE:∀ (l:List (Option DV)) (j:Nat),((mQ j l).map (·.1)).Pairwise (· < ·)∧∀ x∈(mQ j l).map (·.1),site j≤x∧x<site (j+l.length)
 | [],j=>⟨List.Pairwise.nil,by simp [mQ]⟩
 |some d::l,j=>by
  obtain ⟨h1,h2⟩:=uE l (j+1)
  have e:site (j+1)=site j+1:=by unfold site; omega
  have e2:j+1+l.length=j+(l.length+1):=by omega
  have e3:site j<site (j+(l.length+1)):=by unfold site; omega
  rw [e2] at h2
  simp only [mQ,List.map_cons,List.length_cons]
  refine ⟨List.pairwise_cons.2 ⟨fun x hx=>by have:=(h2 x hx).1; omega,h1⟩,fun x hx=> ?_⟩
  rcases List.mem_cons.1 hx with rfl|hx
  ·exact ⟨Nat.le_refl _,e3⟩
  ·have:=h2 x hx; exact ⟨by omega,this.2⟩
 |none::l,j=>by
  obtain ⟨h1,h2⟩:=uE l (j+1)
  have e:site (j+1)=site j+1:=by unfold site; omega
  have e2:j+1+l.length=j+(l.length+1):=by omega
  rw [e2] at h2
  simp only [mQ,List.length_cons]
  exact ⟨h1,fun x hx=>by have:=h2 x hx; exact ⟨by omega,this.2⟩⟩
theorem MG (r:Res):(jg r).srt:=by
 unfold St.srt jg
 simp only [List.map_append]
 refine List.pairwise_append.2 ⟨(uE r.bs 0).1,(lT r.fs r.bs.length).1,fun a ha b hb=> ?_⟩
 have h1:=((uE r.bs 0).2 a ha).2
 have h2:=(lT r.fs r.bs.length).2 b hb
 rw [Nat.zero_add] at h1
 omega
end Go.Own
set_option linter.unusedVariables false
namespace Go.Own
variable {C:Cx} {P:Program} {E:Env} {w w' w2:World} {I I' I1 I2:Nat→Prop} {st sv st':St} {tm:Array Value} {tk tk':bg} {ds:List Deferred} {o:Oper} {R:Type}
def uP (n:Nat) (own:List Nat) (tk:bg):bg:=fun p=>bif jO n p then tk p else bif Nat.ble (site n) p then (own[p - site n]?).bind tk else none
def mY (n:Nat) (own:List Nat):Nat→Nat:=fun s=>bif jO n s then s else site (n+idxOf s own)
theorem rT {n j:Nat}:jO n (site j)=true↔j<n:=by
 unfold jO
 simp only [Bool.and_eq_true,Nat.ble_eq,Nat.blt_eq]
 unfold site
 omega
theorem RN {ρ:Nat→Nat} {v:SV} {r:RV} {x:Value} (hr:zQ ρ v=some r) (hm:∀ s∈v.sites,tk' (ρ s)=tk s) (h:bE w I tk v x):dB w I tk' (zO r) x:=by
 cases v<;>simp only [zQ,reduceCtorEq,Option.some.injEq] at hr<;>subst hr
 case p d=>exact dB.ren (ρ:=ρ) (v:= .p d) hm rfl h
 case sd d=>exact dB.ren (ρ:=ρ) (v:= .sd d) hm rfl h
 case va s t=>exact dB.ren (ρ:=ρ) (v:= .va s t) hm rfl h
 case vs s t pa lo n=>exact dB.ren (ρ:=ρ) (v:= .vs s t pa lo n) hm rfl h
 case pb s t pa=>exact dB.ren (ρ:=ρ) (v:= .pb s t pa) hm rfl h
 case mp s k u=>exact dB.ren (ρ:=ρ) (v:= .mp s k u) hm rfl h
 case nil=>exact h
 case nilp=>exact h
theorem MW {ρ:Nat→Nat} {v:SV} {r:RV} (hr:zQ ρ v=some r):JO r=v.sites.map ρ:=by
 cases v<;>simp only [zQ,reduceCtorEq,Option.some.injEq] at hr<;>subst hr<;>first|rfl|exact nK ρ _
theorem LA {n:Nat} {own:List Nat} {r:Res} {rs:List RV} {dl:List DV} {vs:List Value} (h:Inv C st tm w I tk) (hsm:rs.length≤900000) (hxn:C.xs.length=n) (hnd:own.Nodup) (hown:∀ s∈own,jO n s=false) (hd:own.mapM st.box=some dl)
  (hr:r=⟨rs,qA (mY n own) st 0 n,dl.map (DV.ren (mY n own))⟩) (hcl:mE r=true) (hvl:vs.length=rs.length)
  (hv:∀ (j:Nat) (x:RV) (v:Value),rs[j]?=some x→vs[j]?=some v→(∃ d,x= .val d∧d.1.plain=true∧aC w I tk d.1 d.2 v)∨∃ s,zQ (mY n own) s=some x∧bE w I tk s v):
  ∃ tk',Inv C (jg r) vs.toArray w I tk':=by
 have hbl:r.bs.length=n:=by rw [hr]; exact xU _ _ _ _
 obtain ⟨hdl,hdg⟩:=tC hd
 have hfl:r.fs.length=own.length:=by rw [hr]; simp [hdl]
 have named:∀ s,inR r (mY n own s)=true→uP n own tk (mY n own s)=tk s:=by
  intro s hs
  unfold mY at hs ⊢
  cases he:jO n s with
  |true=>
   simp only [cond_true]
   unfold uP
   rw [he]; rfl
  |false=>
   rw [he] at hs
   simp only [cond_false] at hs ⊢
   have hne:jO n (site (n+idxOf s own))=false:=by
    cases hx:jO n (site (n+idxOf s own)) with
    |false=>rfl
    |true=>have:=rT.1 hx; omega
   have hlt:idxOf s own<own.length:=by
    unfold inR at hs
    simp only [Bool.and_eq_true] at hs
    have hs:=hs.2
    have e:site (n+idxOf s own) - 1000000=n+idxOf s own:=by unfold site; omega
    rw [e,List.getElem?_eq_none (by omega)] at hs
    have hs':Nat.ble (site (n+idxOf s own)+1) (site (r.bs.length+r.fs.length))=true:=hs
    rw [Nat.ble_eq,hbl,hfl] at hs'
    unfold site at hs'
    omega
   unfold uP
   have e2:Nat.ble (site n) (site (n+idxOf s own))=true:=by rw [Nat.ble_eq]; unfold site; omega
   have e3:site (n+idxOf s own) - site n=idxOf s own:=by unfold site; omega
   rw [hne,e2,e3,CW hlt]; rfl
 have hcl':=hcl
 unfold mE at hcl'
 simp only [Bool.and_eq_true,List.all_eq_true] at hcl'
 obtain ⟨⟨hclr,hclb⟩,hclf⟩:=hcl'
 have ex:∀ {s:Nat},jO n s=true→∃ j,s=site j∧j<n:=by
  intro s hs
  unfold jO at hs
  simp only [Bool.and_eq_true,Nat.ble_eq,Nat.blt_eq] at hs
  refine ⟨s - 1000000,?_,by omega⟩
  have:∀ k,site k=1000000+k:=fun k=>rfl
  rw [this]; omega
 refine ⟨uP n own tk,h.into (fun p=>bif jO n p then p else own.getD (p - site n) 0) ?_ ?_ (MG r) ?_ ?_ ?_ ?_ ?_⟩
 ·rw [hr]; simp [jg,hvl]
 ·rw [hr]; simp only [jg,List.length_map]; exact hsm
 ·
  intro i hi
  have hi':i<rs.length:=by rw [hr] at hi; simpa [jg] using hi
  have hri:rs[i]?=some rs[i]:=List.getElem?_eq_getElem hi'
  have hvi:vs[i]?=some vs[i]:=List.getElem?_eq_getElem (by omega)
  have e1:(jg r).slot i=zO rs[i]:=by
   rw [hr]
   unfold St.slot jg
   simp only [List.getD_eq_getElem?_getD,List.getElem?_map,hri,Option.map_some,Option.getD_some]
  have e2:vs.toArray.getD i undef=vs[i]:=by
   have:i<vs.length:=by omega
   simp [Array.getD,this]
  rw [e1,e2]
  have hmem:rs[i]∈r.rs:=by rw [hr]; exact List.getElem_mem hi'
  rcases hv i _ _ hri hvi with ⟨d,hx,hp,hd⟩|⟨s,hx,hd⟩
  ·rw [hx]; exact bE.of1 (v:= .p d) ⟨hp,hd.plain hp⟩
  ·refine bE.of1 (RN hx (fun t ht=>named t (hclr _ (List.mem_flatMap.2 ⟨_,hmem,?_⟩))) hd)
   rw [MW hx]; exact List.mem_map.2 ⟨t,ht,rfl⟩
 ·
  intro s d hs
  obtain ⟨j,rfl,h3|⟨h3,h4⟩⟩:=vU r s d hs
  ·have hj:j<n:=by rw [← hbl]; exact (List.getElem?_eq_some_iff.1 h3).1
   have h5:=h3
   rw [hr] at h5
   simp only [Db,if_pos hj,Nat.zero_add,Option.some.injEq] at h5
   obtain ⟨d0,h6,rfl⟩:=Option.map_eq_some_iff.1 h5
   obtain ⟨q,g1,g2⟩:=h.boxes _ d0 h6
   refine ⟨q,?_,g2.ren (mY n own) fun p hp=>named p (hclb _ (List.mem_flatMap.2 ⟨_,List.mem_of_getElem? h3,?_⟩))⟩
   ·unfold uP; rw [rT.2 hj]; exact g1
   ·show mY n own p∈mentions (d0.ren (mY n own)).1
    rw [nK]; exact List.mem_map.2 ⟨p,hp,rfl⟩
  ·have h5:=h4
   rw [hr] at h5
   simp only [List.getElem?_map] at h5
   obtain ⟨d0,h6,rfl⟩:=Option.map_eq_some_iff.1 h5
   obtain ⟨s0,h7,h8⟩:=hdg _ d0 h6
   obtain ⟨q,g1,g2⟩:=h.boxes s0 d0 h8
   refine ⟨q,?_,g2.ren (mY n own) fun p hp=>named p (hclf _ (List.mem_flatMap.2 ⟨_,List.mem_of_getElem? h4,?_⟩))⟩
   ·unfold uP
    rw [hbl] at h3
    have hne:jO n (site j)=false:=by
     cases hx:jO n (site j) with
     |false=>rfl
     |true=>have:=rT.1 hx; omega
    have e2:Nat.ble (site n) (site j)=true:=by rw [Nat.ble_eq]; unfold site; omega
    have e3:site j - site n=j - (qA (mY n own) st 0 n).length:=by rw [xU]; unfold site; omega
    rw [hne,e2,e3]
    simp only [cond_false,cond_true]
    rw [h7]; exact g1
   ·show mY n own p∈mentions (d0.ren (mY n own)).1
    rw [nK]; exact List.mem_map.2 ⟨p,hp,rfl⟩
 ·
  intro s q hq
  unfold uP at hq
  cases he:jO n s with
  |true=>rw [he] at hq; exact hq
  |false=>
   rw [he] at hq
   simp only [cond_false] at hq ⊢
   cases hb:Nat.ble (site n) s with
   |false=>rw [hb] at hq; cases hq
   |true=>
    rw [hb] at hq
    obtain ⟨a,h1,h2⟩:=Option.bind_eq_some_iff.1 hq
    rw [List.getD_eq_getElem?_getD,h1]; exact h2
 ·intro s s' q q' hq hq' he
  have cs:∀ {s:Nat} {q:Tk},uP n own tk s=some q→jO n s=true∨(jO n s=false∧site n≤s∧∃ a,own[s - site n]?=some a):=by
   intro s q hq
   unfold uP at hq
   cases hx:jO n s with
   |true=>exact .inl rfl
   |false=>
    rw [hx] at hq
    simp only [cond_false] at hq
    cases hb:Nat.ble (site n) s with
    |false=>rw [hb] at hq; cases hq
    |true=>
     rw [hb] at hq
     obtain ⟨a,h1,_⟩:=Option.bind_eq_some_iff.1 hq
     exact .inr ⟨rfl,Nat.le_of_ble_eq_true hb,a,h1⟩
  rcases cs hq with h1|⟨h1,h2,a,h3⟩<;>rcases cs hq' with h1'|⟨h1',h2',a',h3'⟩<;>simp only [h1,h1',cond_true,cond_false] at he
  ·exact he
  ·rw [List.getD_eq_getElem?_getD,h3'] at he
   simp only [Option.getD_some] at he
   have:=hown a' (List.mem_of_getElem? h3')
   rw [← he,h1] at this; cases this
  ·rw [List.getD_eq_getElem?_getD,h3] at he
   simp only [Option.getD_some] at he
   have:=hown a (List.mem_of_getElem? h3)
   rw [he,h1'] at this; cases this
  ·rw [List.getD_eq_getElem?_getD,List.getD_eq_getElem?_getD,h3,h3'] at he
   simp only [Option.getD_some] at he
   subst he
   have:=FV hnd h3 h3'
   omega
 ·intro j q hj d hd'
  have hjn:j<n:=by rw [← hxn]; exact (List.getElem?_eq_some_iff.1 hj).1
  unfold uP
  rw [rT.2 hjn]
  obtain ⟨k,hk,h3|⟨h3,_⟩⟩:=vU r _ d hd'
  ·have:k=j:=by unfold site at hk; omega
   subst this
   rw [hr] at h3
   simp only [Db,if_pos hjn,Nat.zero_add,Option.some.injEq] at h3
   obtain ⟨d0,h6,_⟩:=Option.map_eq_some_iff.1 h3
   exact h.ext k q hj d0 h6
  ·have:k=j:=by unfold site at hk; omega
   omega
end Go.Own
set_option linter.unusedVariables false
namespace Go.Own
variable {C:Cx} {P:Program} {E:Env} {w w' w2:World} {I I' I1 I2:Nat→Prop} {st sv st':St} {tm:Array Value} {tk tk':bg} {ds:List Deferred} {o:Oper} {R:Type}
theorem Eb (hE:eP C.P E) {fz:List Bool} {fn:Func} {Ts:List TypeId} {n:Nat} {ex:Ex} {r:Res} (hxn:C.xs.length=n) (hsm:fn.results.size≤900000) (h:Inv C st tm w I tk) (hk:NM E fz fn.results.toList Ts n ex st=some r):
  (ex= .normal∨ex= .ret)∧∃ I' tk' vs,(results fn tm).run C.P w= .ok (kN vs) w∧Inv C (jg r) vs w I' tk':=by
 have go:(match fn.results.toList.mapM (qV E st) with
  |some vs=>match oz st (zb fz vs) with
   |some fs=>
    let st:=aV fs st
    let own:=(mh st 1000 (((qN fz vs).flatMap fun v=>(qh fs v).dY)++(List.range n).flatMap fun j=>match st.box (site j) with|some d=>mentions d.1|none=> []) []).filter fun s=> !jO n s
    let ρ:Nat→Nat:=fun s=>bif jO n s then s else site (n+idxOf s own)
    match Ci E ρ fs Ts fz vs,own.mapM st.box with
    |some rs,some ds=>bif nodupB own&&mE ⟨rs,qA ρ st 0 n,ds.map (DV.ren ρ)⟩ then some (⟨rs,qA ρ st 0 n,ds.map (DV.ren ρ)⟩:Res) else none
    |_,_=>none
   |none=>none
  |none=>none)=some r→∃ I' tk' vs,(results fn tm).run C.P w= .ok (kN vs) w∧Inv C (jg r) vs w I' tk':=by
  intro hk
  split at hk
  ·rename_i vs hvs
   split at hk
   ·rename_i fs hfs
    obtain ⟨I1,tk1,hF⟩:=jV (View.refl st) h hfs
    obtain ⟨us,hus,hul,hug⟩:=FE hE h hvs
    dsimp only at hk
    generalize hown:(mh (aV fs st) 1000 (((qN fz vs).flatMap fun v=>(qh fs v).dY)++(List.range n).flatMap fun j=>match (aV fs st).box (site j) with|some d=>mentions d.1|none=> []) []).filter (fun s=> !jO n s)=own at hk
    have hno:∀ s∈own,jO n s=false:=by
     intro s hs
     rw [← hown] at hs
     have:=(List.mem_filter.1 hs).2
     simpa using this
    split at hk
    ·rename_i rs dl hrs hdl
     cases hc:(nodupB own&&mE ⟨rs,qA (fun s=>bif jO n s then s else site (n+idxOf s own)) (aV fs st) 0 n,dl.map (DV.ren (fun s=>bif jO n s then s else site (n+idxOf s own)))⟩) with
     |false=>rw [hc] at hk; cases hk
     |true=>
      rw [hc] at hk
      simp only [cond_true,Option.some.injEq] at hk
      simp only [Bool.and_eq_true] at hc
      obtain ⟨hrl,hrg⟩:=K9 hrs
      have hvl:vs.length=fn.results.toList.length:=(tC hvs).1
      have hlen:rs.length≤900000:=by
       have:fn.results.toList.length=fn.results.size:=Array.length_toList
       omega
      obtain ⟨tk2,h2⟩:=LA (r:=r) (vs:=us) hF.inv hlen hxn (vB hc.1) hno hdl hk.symm (by rw [← hk]; exact hc.2) (by omega) (fun j x v hx hv=>by
       obtain ⟨s,hs,hr⟩:=hrg j x hx
       have hrep:=hF.val s v (hug j s v hs hv)
       rcases hr with ⟨T,d,h3,rfl⟩|h3
       ·obtain ⟨g1,g2⟩:=jC hrep h3
        exact .inl ⟨d,rfl,g1,g2⟩
       ·exact .inr ⟨_,h3,hrep⟩)
      refine ⟨I1,tk2,us.toArray,?_,h2⟩
      have e5:results fn tm=(do let vs ← fn.results.mapM (DR tm); pure (if h:vs.size=1 then vs[0] else .tuple vs)):=by
       unfold results
       congr 1
      rw [e5,Array.mapM_eq_mapM_toList,Sem.run_bind]
      have e6:(List.toArray <$>fn.results.toList.mapM (DR tm)).run C.P w= .ok us.toArray w:=by
       rw [map_eq_pure_bind,Sem.run_bind,hus]; rfl
      rw [e6]; rfl
    ·cases hk
   ·cases hk
  ·cases hk
 cases ex with
 |normal=>exact ⟨.inl rfl,go hk⟩
 |exit id=>cases hk
 |ret=>exact ⟨.inr rfl,go hk⟩
theorem Jd {D:aP} (hE:eP P E) (hD:kJ P D) {fz:List Bool} {f:FuncId} {fn:Func} {c:Code} {as:List AV} {bs:List DV} {r:Res} {tab:List (Nat×LE Res)} (m:Nat) (hf:P.funcs[f]?=some fn) (hname:fn.name≠ "runtime.NumGoroutine") (hb:fn.body=some c)
  (hdst:lC fn.ntmps c=true) (hsmall:fn.ntmps≤900000) (hrsz:fn.results.size≤900000) (hT:fQ E D tab fn.ntmps c) (hr:aQ E fz D (aJ E D tab m) fn c as bs=some r):Good P f as bs r:=by
 intro w I xs args hxl hg
 refine .inl ⟨fn,hf,hname,by rw [hb]; rfl,?_⟩
 unfold aQ at hr
 cases hn:(decide (as.length≤fn.ntmps)&&wC E.pools&&(E.pools.isEmpty||J7 as bs)) with
 |false=>rw [hn] at hr; cases hr
 |true=>
 rw [hn] at hr
 simp only [cond_true] at hr
 simp only [Bool.and_eq_true] at hn
 obtain ⟨⟨hn,hp1⟩,hp2⟩:=hn
 have hn':as.length≤fn.ntmps:=of_decide_eq_true hn
 obtain ⟨tk0,hinv⟩:=LU hg hn' hsmall hp1 hp2
 refine calls_of_wp hf hb ?_
 refine tO (C:=⟨P,w,I,xs⟩) hE hD c (IC hE hD c hT m) hdst hr (by simp [st0]; omega) hinv ?_
 intro ex st tm w' I' tk hk hlen hi
 obtain ⟨hex,I2,tk2,vs,h1,h2⟩:=Eb (C:=⟨P,w,I,xs⟩) hE hxl hrsz hi hk
 rcases hex with rfl|rfl
 ·exact ⟨rfl,_,h1,_,rfl,I2,tk2,vs,rfl,h2⟩
 ·exact ⟨rfl,_,h1,_,rfl,I2,tk2,vs,rfl,h2⟩
def Sr:Brn Res→Option Res
 | .one c x=>bif c then some x else none
 | .ite b l r=>bif b then Sr l else Sr r
theorem G6:∀ {b:Brn Res},b.res.1=true→Sr b=some b.res.2
 | .one c x,h=>by
  have h':c=true:=h
  subst h'; rfl
 | .ite b l r,h=>by
  cases b with
  |true=>exact G6 (b:=l) h
  |false=>exact G6 (b:=r) h
end Go.Own
set_option linter.unusedVariables false
namespace Go.Own
open Go.RowKit (Below Below.trod Below.frame)
variable {P:Program} {E:Env}
def Ty.ok:(t:Ty)→t.den→Prop
 | .int k,n=>(Lit.int k n).wf=true
 | .bool,_=>True
 | .str,s=>s.size≤maxLen
 | .flt,b=>(Lit.float .f64 b).wf=true
 | .unit,_=>True
 | .pair a b,x=>Ty.ok a x.1∧Ty.ok b x.2
 | .arr n t,l=>l.length=n∧∀ x∈l,Ty.ok t x
 | .sl t,l=>l.length≤maxLen∧∀ x∈l,Ty.ok t x
 | .ref t,r=>∀ x,r=some x→Ty.ok t x
 |_,_=>True
def Ty.ol:Ty→Bool
 | .int _=>true
 | .bool=>true
 | .str=>true
 | .flt=>true
 | .unit=>true
 | .pair a b=>a.ol&&b.ol
 | .arr _ t=>t.ol
 | .sl t=>t.size != 0&&t.ol
 | .ref t=>t.size != 0&&t.ol
 |_=>false
theorem sO:∀ {t:Ty},t.ol=true→t.plain=true:=by
 intro t
 induction t with
 |pair a b iha ihb=>intro h; simp only [Ty.ol,Bool.and_eq_true] at h; simp [Ty.plain,iha h.1,ihb h.2]
 |arr n t ih=>intro h; exact ih h
 |sl t ih=>intro h; simp only [Ty.ol,Bool.and_eq_true] at h; exact ih h.2
 |ref t ih=>intro h; simp only [Ty.ol,Bool.and_eq_true] at h; exact ih h.2
 |_=>intro h; first|rfl|cases h
theorem lD {T:TypeId} {t:Ty} (h:dX P T t):P.cellsOf T=t.size:=by
 have:=h.base.size
 unfold Program.cellsOf
 cases hi:P.info? T with
 |none=>rw [hi] at this; cases this
 |some i=>rw [hi] at this; simpa using this
theorem cells?_some {w:World} {a:Addr} {n:Nat} {cs:List Value} (h:w.cells? 0 a n=some cs):cs.length=n∧∀ i,i<n→w.cell? (a.add i)=cs[i]?:=by
 unfold World.cells? at h
 rw [if_pos (Nat.zero_le _)] at h
 refine ⟨by simpa using mapM_some_length h,fun i hi=> ?_⟩
 exact mapM_some_get h i i (by simp [hi])
theorem wZ {w:World} {a:Addr} {v:Value} (h:w.cell? a=some v):a=⟨a.block,a.off,none⟩∧a.block<w.heap.size:=by
 unfold World.cell? at h
 split at h
 ·rename_i c e fr hb
  split at h
  ·cases h
  ·rename_i hs
   obtain ⟨b,o,s⟩:=a
   cases s with
   |none=>exact ⟨rfl,(Array.getElem?_eq_some_iff.1 hb).1⟩
   |some _=>simp at hs
 ·cases h
section
variable {H:Type} {enc:TypeId×Value→H} {w:World}
def Opens (P:Program) (enc:TypeId×Value→H) (w:World) (t:Ty):Prop:=
 (∀ (T:TypeId) (fuel:Nat) (cs:List Value) (d:DataW H×List MemPlace),dX P T t→DataW.trod enc P w 0 (fun _=>true) true fuel T cs=some d→∃ x,Ty.ok t x∧af w (fun b=>b<w.heap.size) (fun _=>none) t x cs)∧
 (∀ (fs:List Field) (off:Nat) (cs:List Value),eF P fs off t→cs.length=off+t.size→(∀ f∈fs,∃ n d,DataW.trod enc P w 0 (fun _=>true) true n f.type ((cs.drop f.offset).take (P.cellsOf f.type))=some d)→
  ∃ x,Ty.ok t x∧af w (fun b=>b<w.heap.size) (fun _=>none) t x (cs.drop off))
theorem Ii {α β:Type} {Q:α→β→Prop}:∀ {l:List α},(∀ a∈l,∃ b,Q a b)→∃ r:List β,r.length=l.length∧∀ (i:Nat) (a:α) (b:β),l[i]?=some a→r[i]?=some b→Q a b
 | [],_=>⟨[],rfl,by intro i a b h; simp at h⟩
 |a::l,h=>by
  obtain ⟨b,hb⟩:=h a (by simp)
  obtain ⟨r,h1,h2⟩:=Ii (l:=l) fun x hx=>h x (by simp [hx])
  refine ⟨b::r,by simp [h1],fun i x y hx hy=> ?_⟩
  cases i with
  |zero=>simp at hx hy; subst hx; subst hy; exact hb
  |succ i=>exact h2 i x y (by simpa using hx) (by simpa using hy)
theorem opens (P:Program) (enc:TypeId×Value→H) (w:World):∀ t:Ty,t.ol=true→Opens P enc w t:=by
 intro t
 induction t with
 |int k=>
  intro _
  refine ⟨fun T fuel cs d hT h=> ?_,fun fs off cs h=>absurd h (by simp [eF,qg])⟩
  obtain ⟨_,hu⟩:=hT
  cases fuel with
  |zero=>simp [DataW.trod] at h
  |succ n=>
   rw [DataW.trod_step] at h
   unfold DataW.trodStep at h
   rw [hu] at h
   split at h<;>simp_all
   rename_i n' _ _ hk
   subst hk
   exact ⟨(n':Int),by simp only [Ty.ok]; exact h.1.2,by simp only [af]⟩
 |bool=>
  intro _
  refine ⟨fun T fuel cs d hT h=> ?_,fun fs off cs h=>absurd h (by simp [eF,qg])⟩
  obtain ⟨_,hu⟩:=hT
  cases fuel with
  |zero=>simp [DataW.trod] at h
  |succ n=>
   rw [DataW.trod_step] at h
   unfold DataW.trodStep at h
   rw [hu] at h
   split at h<;>try (simp_all; done)
   rename_i b _
   exact ⟨b,trivial,rfl⟩
 |str=>
  intro _
  refine ⟨fun T fuel cs d hT h=> ?_,fun fs off cs h=>absurd h (by simp [eF,qg])⟩
  obtain ⟨_,hu⟩:=hT
  cases fuel with
  |zero=>simp [DataW.trod] at h
  |succ n=>
   rw [DataW.trod_step] at h
   unfold DataW.trodStep at h
   rw [hu] at h
   split at h<;>simp_all
   exact ⟨_,h.1,rfl⟩
 |flt=>
  intro _
  refine ⟨fun T fuel cs d hT h=> ?_,fun fs off cs h=>absurd h (by simp [eF,qg])⟩
  obtain ⟨_,hu⟩:=hT
  cases fuel with
  |zero=>simp [DataW.trod] at h
  |succ n=>
   rw [DataW.trod_step] at h
   unfold DataW.trodStep at h
   rw [hu] at h
   split at h<;>simp_all
   rename_i b' hk
   subst hk
   obtain ⟨⟨_,hw⟩,_⟩:=h
   exact ⟨(b':Nat),by simp only [Ty.ok]; exact hw,by simp only [af]⟩
 |unit=>
  intro _
  refine ⟨fun T fuel cs d hT h=> ?_,fun fs off cs h hl hf=>⟨(),trivial,?_⟩⟩
  ·obtain ⟨hb,hst,fs,hu,hfs⟩:=hT
   obtain ⟨xs,n,_,_,hl,_⟩:=DataW.trod_struct hu h
   refine ⟨(),trivial,?_⟩
   rw [lD (t:= .unit) ⟨hb,hst,fs,hu,hfs⟩] at hl
   exact List.length_eq_zero_iff.1 hl
  ·simp only [af]
   exact List.drop_eq_nil_of_le (by simp [Ty.size] at hl; omega)
 |pair a b iha ihb=>
  intro hs
  simp only [Ty.ol,Bool.and_eq_true] at hs
  have iha:=iha hs.1
  have ihb:=ihb hs.2
  have two:∀ (fs:List Field) (off:Nat) (cs:List Value),eF P fs off (.pair a b)→cs.length=off+(Ty.pair a b).size→(∀ f∈fs,∃ n d,DataW.trod enc P w 0 (fun _=>true) true n f.type ((cs.drop f.offset).take (P.cellsOf f.type))=some d)→
    ∃ x,Ty.ok (.pair a b) x∧af w (fun b=>b<w.heap.size) (fun _=>none) (.pair a b) x (cs.drop off):=by
   intro fs off cs h hl hf
   obtain ⟨f,r,rfl,rfl,h1,h2⟩:=h
   obtain ⟨n,d,hd⟩:=hf f (by simp)
   obtain ⟨x1,o1,r1⟩:=iha.1 _ _ _ _ h1 hd
   obtain ⟨x2,o2,r2⟩:=ihb.2 r (f.offset+a.size) cs h2 (by simp [Ty.size] at hl; omega) fun g hg=>hf g (by simp [hg])
   rw [lD (t:=a) h1] at r1
   refine ⟨(x1,x2),⟨o1,o2⟩,_,_,?_,r1,r2⟩
   rw [← List.drop_drop,List.take_append_drop]
  refine ⟨fun T fuel cs d hT h=> ?_,two⟩
  have hsz:=lD hT
  obtain ⟨hb,hst,_,fs,hu,hnm,f,r,hfs,ho,h1,h2⟩:=hT
  obtain ⟨xs,n,_,_,hl,hxl,hget⟩:=DataW.trod_struct hu h
  have:=two fs.toList 0 cs ⟨f,r,hfs,ho,h1,by simpa using h2⟩ (by rw [hl,hsz]; simp) (fun g hg=>by
   obtain ⟨i,hi⟩:=List.getElem?_of_mem hg
   have hi':fs[i]?=some g:=by simpa using hi
   have hlt:i<xs.length:=by rw [hxl]; exact (Array.getElem?_eq_some_iff.1 hi').1
   exact ⟨n,xs[i],by rw [hget i g hi',List.getElem?_eq_getElem hlt]⟩)
  simpa using this
 |arr n t ih=>
  intro hs
  simp only [Ty.ol] at hs
  have ih:=ih hs
  refine ⟨fun T fuel cs d hT h=> ?_,fun fs off cs h=>absurd h (by simp [eF,qg])⟩
  have hsz:=lD hT
  obtain ⟨hb,e,hu,he⟩:=hT
  obtain ⟨xs,m,_,_,hl,hxl,hget⟩:=DataW.trod_array hu h
  rw [lD he] at hget
  obtain ⟨r,hr1,hr2⟩:=Ii (l:=List.range n) (Q:=fun i x=>Ty.ok t x∧af w (fun b=>b<w.heap.size) (fun _=>none) t x ((cs.drop (i*t.size)).take t.size)) (fun i hi=>by
   have hi:i<n:=by simpa using hi
   have hlt:i<xs.length:=by rw [hxl]; exact hi
   exact ih.1 e m _ (xs[i]) he (by rw [hget i hi,List.getElem?_eq_getElem hlt]))
  simp at hr1
  refine ⟨r,⟨hr1,fun x hx=> ?_⟩,hr1,by rw [hl,hsz]; rfl,fun i x hx=> ?_⟩
  ·obtain ⟨i,hi⟩:=List.getElem?_of_mem hx
   have hlt:i<n:=by rw [← hr1]; exact (List.getElem?_eq_some_iff.1 hi).1
   exact (hr2 i i x (by simp [hlt]) hi).1
  ·have hlt:i<n:=by rw [← hr1]; exact (List.getElem?_eq_some_iff.1 hx).1
   exact (hr2 i i x (by simp [hlt]) hx).2
 |sl t ih=>
  intro hs
  simp only [Ty.ol,Bool.and_eq_true,bne_iff_ne,ne_eq] at hs
  have ih:=ih hs.2
  refine ⟨fun T fuel cs d hT h=> ?_,fun fs off cs h=>absurd h (by simp [eF,qg])⟩
  obtain ⟨hb,e,hu,he⟩:=hT
  rcases DataW.trod_slice hu h with ⟨rfl,_⟩|⟨a,len,cap,elems,rest,m,_,rfl,_,_,hlc,hcm,hel,hget,_,_⟩
  ·exact ⟨[],⟨Nat.zero_le _,by simp⟩,none,0,rfl,Nat.le_refl _,.inl rfl⟩
  ·rw [lD he] at hget
   obtain ⟨r,hr1,hr2⟩:=Ii (l:=List.range len) (Q:=fun i x=>Ty.ok t x∧∃ c,w.cells? 0 (a.add (i*t.size)) t.size=some c∧af w (fun b=>b<w.heap.size) (fun _=>none) t x c) (fun i hi=>by
    have hi:i<len:=by simpa using hi
    have hlt:i<elems.length:=by rw [hel]; exact hi
    have:=hget i hi
    rw [List.getElem?_eq_getElem hlt] at this
    obtain ⟨c,hc,hd⟩:=Option.bind_eq_some_iff.1 this
    obtain ⟨x,h1,h2⟩:=ih.1 e m c _ he hd
    exact ⟨x,h1,c,hc,h2⟩)
   simp at hr1
   refine ⟨r,⟨by omega,fun x hx=> ?_⟩,some a,cap,by rw [hr1],by omega,?_⟩
   ·obtain ⟨i,hi⟩:=List.getElem?_of_mem hx
    have hlt:i<len:=by rw [← hr1]; exact (List.getElem?_eq_some_iff.1 hi).1
    exact (hr2 i i x (by simp [hlt]) hi).1
   ·cases hr:r with
    |nil=>exact .inl rfl
    |cons x0 r'=>
     refine .inr ⟨sO hs.2,?_⟩
     have h0:r[0]?=some x0:=by rw [hr]; rfl
     have hlen:0<len:=by rw [← hr1,hr]; simp
     obtain ⟨_,c,hc,hrep⟩:=hr2 0 0 x0 (by simp [hlen]) h0
     obtain ⟨hcl,hcg⟩:=cells?_some hc
     have hc0:=hcg 0 (by omega)
     rw [List.getElem?_eq_getElem (by omega)] at hc0
     obtain ⟨ha,hlt⟩:=wZ hc0
     obtain ⟨ab,ao,as⟩:=a
     have has:as=none:=by
      have:=congrArg Addr.spot ha
      cases as with
      |none=>rfl
      |some q=>simp [Addr.add] at this
     subst has
     refine ⟨ab,ao,rfl,by simpa [Addr.add] using hlt,?_⟩
     rw [← hr]
     intro i x hx
     have hi:i<len:=by rw [← hr1]; exact (List.getElem?_eq_some_iff.1 hx).1
     obtain ⟨_,c,hc,hrep⟩:=hr2 i i x (by simp [hi]) hx
     obtain ⟨hcl,hcg⟩:=cells?_some hc
     refine ⟨c,hrep,fun j v hj=> ?_⟩
     have hjl:=(List.getElem?_eq_some_iff.1 hj).1
     have:=hcg j (by omega)
     rw [hj,WideShapes.add_plain,WideShapes.add_plain] at this
     exact this
 |ref t ih=>
  intro hs
  simp only [Ty.ol,Bool.and_eq_true,bne_iff_ne,ne_eq] at hs
  have ih:=ih hs.2
  refine ⟨fun T fuel cs d hT h=> ?_,fun fs off cs h=>absurd h (by simp [eF,qg])⟩
  obtain ⟨hb,e,hu,he⟩:=hT
  cases fuel with
  |zero=>simp [DataW.trod] at h
  |succ n=>
   rw [DataW.trod_step] at h
   unfold DataW.trodStep at h
   rw [hu] at h
   split at h<;>try (simp_all; done)
   ·exact ⟨none,(fun x hx=>by cases hx),rfl⟩
   ·rename_i u cs' e' a hue
    cases hue
    obtain ⟨y,hy,_⟩:=Option.map_eq_some_iff.1 h
    obtain ⟨c,hc,hd⟩:=Option.bind_eq_some_iff.1 hy
    rw [lD he] at hc
    obtain ⟨x,h1,h2⟩:=ih.1 e n c _ he hd
    obtain ⟨hcl,hcg⟩:=cells?_some hc
    have hc0:=hcg 0 (by omega)
    rw [List.getElem?_eq_getElem (by omega)] at hc0
    obtain ⟨ha,hlt⟩:=wZ hc0
    obtain ⟨ab,ao,as⟩:=a
    have has:as=none:=by
     have:=congrArg Addr.spot ha
     cases as with
     |none=>rfl
     |some q=>simp [Addr.add] at this
    subst has
    refine ⟨some x,(fun z hz=>by cases hz; exact h1),sO hs.2,ab,ao,c,rfl,by simpa [Addr.add] using hlt,h2,fun j v hj=> ?_⟩
    have hjl:=(List.getElem?_eq_some_iff.1 hj).1
    have:=hcg j (by omega)
    rw [hj,WideShapes.add_plain] at this
    exact this
 |_=>intro h; cases h
end
def EX (E:Env):List TypeId→Option (List Ty)
 | []=>some []
 |T::Ts=>match E.T T,EX E Ts with
  |some t,some ts=>bif t.ol then some (t::ts) else none
  |_,_=>none
theorem FQ {H:Type} {enc:TypeId×Value→H} {w:World} (hE:eP P E):∀ {Ts:List TypeId} {ts:List Ty} {vs:List Value} {ds:List (DataW H)} {p:List MemPlace},EX E Ts=some ts→
  DataW.TrodAll enc P w 0 (fun _=>true) true Ts vs ds p→(∀ (j:Nat) T v,Ts[j]?=some T→vs[j]?=some v→Value.okWide P w .any 0 T v)→
  ∃ xs:List DV,xs.map (·.1)=ts∧(∀ x∈xs,Ty.ok x.1 x.2)∧(∀ x∈xs,x.1.plain=true)∧vs.length=xs.length∧ds.length=xs.length∧∀ (j:Nat) (x:DV) (v:Value),xs[j]?=some x→vs[j]?=some v→aC w (fun b=>b<w.heap.size) (fun _=>none) x.1 x.2 v
 | [],ts,vs,ds,p,h,hA,_=>by
  simp only [EX,Option.some.injEq] at h
  subst h
  obtain ⟨rfl,rfl,rfl⟩:=ChangeShapes.trodAll_nil hA
  exact ⟨[],rfl,by simp,by simp,rfl,rfl,by simp⟩
 |T::Ts,ts,vs,ds,p,h,hA,hok=>by
  simp only [EX] at h
  split at h
  ·rename_i t ts' ht hts
   cases hsol:t.ol with
   |false=>rw [hsol] at h; cases h
   |true=>
    rw [hsol] at h
    simp only [cond_true,Option.some.injEq] at h
    subst h
    obtain ⟨v,vs',d,ds',q1,q2,rfl,rfl,rfl,h1,h2⟩:=ChangeShapes.trodAll_cons hA
    obtain ⟨xs,e1,e2,e6,e3,e4,e5⟩:=FQ (p:=q2) hE hts h2 (fun j T v h3 h4=>hok (j+1) T v (by simpa using h3) (by simpa using h4))
    obtain ⟨fuel,hf⟩:=h1
    have hTy:=hE.ty T t ht
    obtain ⟨x,o,r⟩:=(opens P enc w t hsol).1 T fuel _ _ hTy hf
    refine ⟨⟨t,x⟩::xs,by simp [e1],?_,(by intro y hy; rcases List.mem_cons.1 hy with rfl|hy; exact sO hsol; exact e6 y hy),by simp [e3],by simp [e4],fun j y u h3 h4=> ?_⟩
    ·intro y hy
     rcases List.mem_cons.1 hy with rfl|hy
     ·exact o
     ·exact e2 y hy
    ·cases j with
     |zero=>
      simp at h3 h4
      subst h3; subst h4
      have hv:=hok 0 T v rfl rfl
      unfold aC
      simp only
      have agg:t.isAgg=true→∃ cs,v= .agg cs:=by
       intro ha
       unfold Value.okWide at hv
       cases t with
       |unit=>
        obtain ⟨_,_,fs,hu,_⟩:=hTy
        rw [hu] at hv; obtain ⟨cs,e,_⟩:=hv; exact ⟨cs,e⟩
       |pair a b=>
        obtain ⟨_,_,_,fs,hu,_⟩:=hTy
        rw [hu] at hv; obtain ⟨cs,e,_⟩:=hv; exact ⟨cs,e⟩
       |arr n a=>
        obtain ⟨_,e,hu,_⟩:=hTy
        rw [hu] at hv; obtain ⟨cs,e,_⟩:=hv; exact ⟨cs,e⟩
       |_=>first|(cases hsol; done)|cases ha
      split
      ·rename_i ha
       obtain ⟨cs,rfl⟩:=agg ha
       exact ⟨cs,rfl,r⟩
      ·rename_i ha
       have hc:v.cells= #[v]:=by
        cases v<;>first|rfl|skip
        rename_i cs
        exfalso
        cases t with
        |unit=>exact ha rfl
        |pair a b=>exact ha rfl
        |arr n a=>exact ha rfl
        |int k=>
         unfold Value.okWide at hv
         obtain ⟨_,hu⟩:=hTy
         obtain ⟨n,e⟩:=WideShapes.okWide_int hu (hok 0 T _ rfl rfl); cases e
        |bool=>
         obtain ⟨_,hu⟩:=hTy
         obtain ⟨n,e⟩:=WideShapes.okWide_bool hu (hok 0 T _ rfl rfl); cases e
        |str=>
         obtain ⟨_,hu⟩:=hTy
         obtain ⟨n,e⟩:=WideShapes.okWide_string hu (hok 0 T _ rfl rfl); cases e
        |flt=>
         obtain ⟨_,hu⟩:=hTy
         have:=hok 0 T (.agg cs) rfl rfl
         unfold Value.okWide at this
         rw [hu] at this
         simp only at this
         unfold Cell.okWide at this
         rw [hu] at this
         simp only at this
         unfold Cell.ok at this
         rw [hu] at this
         simp at this
        |sl a=>
         obtain ⟨_,e,hu,_⟩:=hTy
         obtain ⟨a,l,c,e⟩:=WideShapes.okWide_slice hu (hok 0 T _ rfl rfl); cases e
        |ref a=>
         obtain ⟨_,e,hu,_⟩:=hTy
         obtain ⟨a,e⟩:=WideShapes.okWide_pointer hu (hok 0 T _ rfl rfl); cases e
        |_=>cases hsol
       rw [hc] at r
       exact r
     |succ j=>exact e5 j y u (by simpa using h3) (by simpa using h4)
  ·cases h
theorem uN {H:Type} {enc:TypeId×Value→H} {W W':World} (hl:laidOutB P=true) (hb:Below W.heap.size W W'):∀ {Ts:List TypeId} {vs:List Value} {ds:List (DataW H)} {p:List MemPlace},
  (∀ T∈Ts,P.readableRec T=true∧T<P.types.size)→DataW.TrodAll enc P W 0 (fun _=>true) true Ts vs ds p→DataW.TrodAll enc P W' 0 (fun b=>decide (b<W.heap.size)) true Ts vs ds p
 | [],vs,ds,p,_,h=>by
  obtain ⟨rfl,rfl,rfl⟩:=ChangeShapes.trodAll_nil h
  rfl
 |T::Ts,vs,ds,p,hr,h=>by
  obtain ⟨v,vs',d,ds',q1,q2,rfl,rfl,rfl,h1,h2⟩:=ChangeShapes.trodAll_cons h
  have hlt:∀ x∈q1,x.block<W.heap.size:=by obtain ⟨m,hm⟩:=h1; exact DataW.trod_lt m _ _ _ hm
  exact trodAll_cons_mk (Below.trod hl (hr T (by simp)).1 (hr T (by simp)).2 h1 hb hlt) (uN hl hb (fun U hU=>hr U (by simp [hU])) h2)
theorem lifted {C:Checked} {os:Os} {H:Type} {enc:TypeId×Value→H} {f:FuncId} {fn:Func} {c:Code} {s:ChangeSpec} {conds:List PathCond} {ts:List Ty} {TB:TypeId} (hP:C.prog=P)
  (own:ownKnob C.prog.godebug=none) (started:os.Started) (noInit:C.prog.inits.idxOf? f=none) (hfn:C.prog.funcs[f]?=some fn) (hname:fn.name≠ "runtime.NumGoroutine") (hb:fn.body=some c)
  (witness:∃ (w:World) (tape:Tape) (i:Input),w.os=os∧(w.forCall tape i).Shaped C.prog∧i.vars= []∧Input.okWide C.prog (w.forCall tape i) .any w.heap.size f i∧
   s.pre6 enc C.prog fn conds false (w.forCall tape i).memory i.args∧({}:Assume).holds C.prog (lone (Frame.enter C.prog f i.args .normal) [] (w.forCall tape i)))
  (hvars:s.vars= []) (hE:eP P E) (hts:EX E fn.params.toList=some ts) (hlaid:laidOutB P=true) (hread:∀ T∈fn.params.toList,P.readableRec T=true∧T<P.types.size)
  (hres:fn.resultTypes= #[TB]) (hTB:P.underlying TB=some .bool)
  (hspec:∀ ds:List (DataW H),ds.length=ts.length→s.fn H ds= {results:= [.lit (.bool true)],args:=ds})
  (hgood:∀ xs:List DV,xs.map (·.1)=ts→(∀ x∈xs,Ty.ok x.1 x.2)→Good P f (xs.map .val) [] ⟨[.val ⟨.bool,true⟩],[],[]⟩) (hts1:ts.length≤900000):
  ReturnsInHanded {} C os f .any (s.pre6 enc C.prog fn conds false) (s.post enc C.prog fn false true false false):=by
 subst hP
 refine returnsInHanded_of_change_sized own started noInit hfn witness ?_
 intro W base args ds gs before hval hW hcnd hsz _
 have hW':=hW
 obtain ⟨p,q,hA,hV,rfl,hfz,hnd⟩:=hW
 rw [hvars] at hV
 obtain ⟨rfl,rfl⟩:=ChangeShapes.trodVars_none hV
 obtain ⟨xs,e1,e2,e6,e3,e4,e5⟩:=FQ hE hts hA (fun j T v h1 h2=>by
  have:=hval j T v (by simpa using h1) (by simpa using h2)
  exact Value.okWide_any_base this)
 have hinv:Inv ⟨C.prog,W,fun b=>b<W.heap.size,[]⟩ (jq (xs.map .val) []) args W (fun b=>b<W.heap.size) (xtk []):=by
  have no:∀ s q,xtk [] s=some q→False:=fun s q h=>by obtain ⟨j,_,hj⟩:=jo h; simp at hj
  have hal:args.size=xs.length:=by simpa using e3
  constructor
  case len=>simp [jq,hal]
  case small=>simp only [jq,List.length_map]; rw [← e1] at hts1; simpa using hts1
  case srt=>exact List.Pairwise.nil
  case slots=>
   intro i hi
   have hi':i<xs.length:=by simpa [jq] using hi
   have hsl:(jq (xs.map .val) []).slot i= .p xs[i]:=by
    unfold St.slot jq
    simp only [List.getD_eq_getElem?_getD,List.getElem?_map,List.getElem?_eq_getElem hi',Option.map_some,Option.getD_some]
    rfl
   have hia:i<args.size:=by omega
   have hv:args.getD i undef=args[i]:=by simp [Array.getD,hia]
   rw [hsl,hv]
   have hr:=e5 i xs[i] args[i] (List.getElem?_eq_getElem hi') (by simp [hia])
   have hpl:=e6 _ (List.getElem_mem hi')
   exact ⟨hpl,hr.plain hpl⟩
  case boxes=>intro s d h; rw [Fh] at h; split at h<;>simp at h
  case inj=>intro a b qa qb k h; exact (no _ _ h).elim
  case tokLt=>intro a q k h; exact (no _ _ h).elim
  case tokI=>intro a q k h; exact (no _ _ h).elim
  case tys=>intro a q k h; exact (no _ _ h).elim
  case ilt=>exact fun _ h=>h
  case fresh=>intro a q k h; exact (no _ _ h).elim
  case ext=>intro j q h; simp at h
  case keep=>exact fun _ _ _=>rfl
  case size=>exact Nat.le_refl _
  case os=>rfl
  case output=>rfl
  case tape=>rfl
  case sub=>exact fun _ h=>h
  case new=>exact fun _ h=> .inl h
 have hg:=hgood xs e1 e2 W (fun b=>b<W.heap.size) [] args rfl hinv
 have fin:∀ v w',(∃ I' tk' vs,v=kN vs∧Inv ⟨C.prog,W,fun b=>b<W.heap.size,[]⟩ (jg ⟨[.val ⟨.bool,true⟩],[],[]⟩) vs w' I' tk')→s.post enc C.prog fn false true false false W args v w':=by
  rintro v w' ⟨I',tk',vs,rfl,hl⟩
  have hlen1:vs.size=1:=by have:=hl.len; simpa [jg] using this.symm
  have hb:=hl.slots 0 (by simp [jg])
  have hv:vs[0]= .bool true:=by
   have e1:(jg ⟨[.val ⟨.bool,true⟩],[],[]⟩).slot 0= .p ⟨.bool,true⟩:=rfl
   have e2:vs.getD 0 undef=vs[0]:=by simp [Array.getD,hlen1]
   rw [e1,e2] at hb
   exact bT.1 hb
  have hret:kN vs= .bool true:=by
   unfold kN
   rw [dif_pos hlen1,hv]
  have bel:Below W.heap.size W w':=⟨hl.os,hl.tape,hl.output,hl.size,fun k hk=>hl.keep k hk (by intro j q h; simp at h)⟩
  have hsp:=hspec ds (by rw [e4,← e1]; simp)
  refine ⟨ds,[],p++ [],[],p,[],hW',?_,?_,?_,bel.frame _,fun h=>by cases h⟩
  ·rw [hret,List.append_nil,hsp,hres]
   exact ChangeShapes.trodAll_mk1 (RowKit.shut_bool hTB _)
  ·rw [List.append_nil,hsp]
   exact uN hlaid bel hread hA
  ·rw [hvars,List.append_nil,hsp]; rfl
 rcases hg with ⟨fn',h1,h2,h3,h4⟩|⟨v,w',h1,h2⟩
 ·exact h4.mono fun e w' ⟨v,he,hR⟩=>⟨v,he,fin v w' hR⟩
 ·exfalso
  have e:(callFunc f args).run C.prog W= .ok (.enter f args) W:=by
   simp [callFunc,hfn,hname,hb]
  rw [e] at h1; cases h1
end Go.Own
