/- What is proved: the evaluator of the translated code, and that it is sound, part 7. Conditions: those that each theorem names. -/
import Derived.Test.YtnighkkdmgmcnaaGreatW6
set_option linter.unusedVariables false
set_option linter.unusedSimpArgs false
set_option linter.unusedVariables false
namespace Go.Own
variable {C:Cx} {P:Program} {E:Env} {w w':World} {I I':Nat→Prop} {st sv:St} {tm:Array Value} {tk tk':aU} {ds:List Deferred} {o:Oper} {e:Ef}
theorem o8 (n0:Nat):∀ {n:Nat} {t u:Ty},lq t (aR n)=some u→pathIn n0 t (aR n):=by
 intro n
 induction n with
 |zero=>intro t u h; cases t<;>simp_all [aR,lq,pathIn]
 |succ n ih=>
  intro t u h
  cases t<;>simp only [aR,lq,reduceCtorEq] at h
  simp only [aR,pathIn]
  exact ih h
theorem Oe:∀ {n:Nat} {t u:Ty} {fs:List Field} {off:Nat},fB P fs off t→lq t (aR n)=some u→
  ∃ f o,fs[n]?=some f∧bG t (aR n)=some (o,u)∧f.offset=off+o∧fO P f.type u:=by
 intro n
 induction n with
 |zero=>
  intro t u fs off h hu
  cases t<;>simp only [aR,lq,reduceCtorEq] at hu
  rename_i a b
  obtain ⟨f,r,rfl,ho,h1,h2⟩:=h
  have:a=u:=by cases a<;>simpa [lq] using hu
  subst this
  exact ⟨f,0,rfl,by cases a<;>rfl,by simpa using ho,h1⟩
 |succ n ih=>
  intro t u fs off h hu
  cases t<;>simp only [aR,lq,reduceCtorEq] at hu
  rename_i a b
  obtain ⟨f,r,rfl,ho,h1,h2⟩:=h
  obtain ⟨g,o,h3,h4,h5,h6⟩:=ih h2 hu
  exact ⟨g,a.size+o,by simpa using h3,by simp [aR,bG,h4],by omega,h6⟩
theorem vv {T:TypeId} {t:Ty} (h:fO P T t) {n:Nat} {u:Ty} (hu:lq t (aR n)=some u):
  ∃ fs f o,P.underlying T=some (.struct fs)∧fs[n]?=some f∧bG t (aR n)=some (o,u)∧f.offset=o∧fO P f.type u:=by
 have hp:∃ a b,t= .pair a b:=by
  cases t<;>cases n<;>simp [aR,lq] at hu ⊢
 obtain ⟨a,b,rfl⟩:=hp
 obtain ⟨_,_,_,fs,hfs,_,f,r,hfr,ho,h1,h2⟩:=h
 have hF:fB P fs.toList 0 (.pair a b):=⟨f,r,hfr,ho,h1,by simpa [fB] using h2⟩
 obtain ⟨g,o,h3,h4,h5,h6⟩:=Oe hF hu
 exact ⟨fs,g,o,hfs,by simpa using h3,h4,by omega,h6⟩
theorem LC:∀ {pa:Path} {t:Ty} {x:t.den} {d:DV},iI t x pa=some d→(∀ s,s∈pa→s= .fst∨s= .snd)→lq t pa=some d.1:=by
 intro pa
 induction pa with
 |nil=>intro t x d h _; cases t<;>(simp only [iI,Option.some.injEq] at h; subst h; rfl)
 |cons s pa ih=>
  intro t x d h hn
  have hn':∀ s,s∈pa→s= .fst∨s= .snd:=fun s hs=>hn s (List.mem_cons_of_mem _ hs)
  have h0:=hn s List.mem_cons_self
  cases t<;>cases s<;>simp only [iI,reduceCtorEq] at h<;>first|exact ih h hn'|(rcases h0 with h0|h0<;>cases h0)
theorem xg:∀ {n:Nat} {s:PS},s∈aR n→s= .fst∨s= .snd
 |0,s,h=>by simp [aR] at h; exact .inl h
 |n+1,s,h=>by
  simp only [aR,List.mem_cons] at h
  rcases h with rfl|h
  ·exact .inr rfl
  ·exact xg h
theorem tF:∀ {n:Nat} {s:PS},s∈aR n→∀ lo k,s≠ .sub lo k
 |0,s,h,lo,k=>by simp [aR] at h; subst h; simp
 |n+1,s,h,lo,k=>by
  simp only [aR,List.mem_cons] at h
  rcases h with rfl|h
  ·simp
  ·exact tF h lo k
theorem vU {i:Int} {n:Nat} (h0:0≤i) (h1:i<n):i.toNat<n:=by omega
theorem FK {s s':SV} {v:Value} {pa:Path} {t u:Ty} {off:Nat} (hns:∀ s,s∈pa→∀ lo n,s≠ .sub lo n) (hv:bf w I tk s v) (ht:pR s=some t) (hp:partOf pa s=some s')
  (hat:bG t pa=some (off,u)) (hin:∀ n,pathIn n t pa):
  pR s'=some u∧∃ b o,v= .pointer (some ⟨b,o,none⟩)∧bf w I tk s' (.pointer (some ⟨b,o+off,none⟩)):=by
 cases s with
 |pb r t0 q=>
  simp only [pR,Option.some.injEq] at ht; subst ht
  obtain ⟨k,b,off0,h1,h2,h3,rfl⟩:=hv
  simp only [partOf] at hp
  obtain ⟨u',hu',rfl⟩:=Option.map_eq_some_iff.1 hp
  obtain ⟨off',ho'⟩:=EZ hu'
  rw [hat] at ho'; simp only [Option.some.injEq,Prod.mk.injEq] at ho'
  obtain ⟨rfl,rfl⟩:=ho'
  exact ⟨rfl,b,off0,rfl,k,b,off0+off,h1,Tk.yD h2 hat,Tk.vN h2 h3 hin,rfl⟩
 |p e=>
  obtain ⟨te,x⟩:=e
  cases te with
  |ref t1=>
   have ht':some t1=some t:=ht
   cases ht'
   cases x with
   |none=>cases hp
   |some y=>
    have hp':(iI t y pa).map (fun d=>SV.p ⟨.ref d.1,some d.2⟩)=some s':=hp
    obtain ⟨d,hg,rfl⟩:=Option.map_eq_some_iff.1 hp'
    have hr:=hv.p
    have hpl:=hv.pl
    have hplt:t.plain=true:=hpl
    simp only [aA,Ty.isAgg,Bool.false_eq_true,if_false,ai] at hr
    obtain ⟨_,b,o,c,e,hI,hc,ha⟩:=hr
    simp only [List.cons.injEq,and_true] at e
    have hfr:=Ty.eZ hplt
    obtain ⟨off',h5,h6,h7⟩:=kS 0 hc (u:=d.1) (y:=d.2) hg (by rw [hfr]; exact hin 0)
    rw [hfr,hat] at h5; simp only [Option.some.injEq,Prod.mk.injEq] at h5
    have hdp:d.1.plain=true:=nM hplt hg
    obtain ⟨h5,h5'⟩:=h5
    subst h5
    refine ⟨by rw [h5',Ty.eZ hdp]; rfl,b,o,e,hdp,?_⟩
    simp only [aA,Ty.isAgg,Bool.false_eq_true,if_false,ai]
    refine ⟨hdp,b,o+off,_,rfl,hI,h6,?_⟩
    intro j v hj
    rw [dI] at hj
    split at hj
    ·have:=ha _ _ hj
     rw [← this]; congr 2; omega
    ·cases hj
  |_=>cases ht
 |_=>cases ht
theorem D6 {T:TypeId} {x:Operand} {f:Nat} (hE:eD C.P E) (hV:View sv st) (h:Inv C st tm w I tk) (hd:∀ d,o.dst=some d→d<st.sl.length) (ho:o.op= .fieldAddr T x f) (hf:opP E o sv=some (true,e)):
  aV C o ds (e.run o.dst st) tm w:=by
 have hx:=fe (ds:=ds) hV h x
 simp only [opP,ho] at hf
 split at hf
 ·rename_i s' t hp ht
  cases hc:(E.isT T t&&nzT s') with
  |false=>rw [hc] at hf; cases hf
  |true=>
   rw [hc] at hf
   simp only [cond_true,Option.some.injEq,Prod.mk.injEq,true_and] at hf; subst hf
   simp only [Bool.and_eq_true] at hc
   obtain ⟨hT,hz⟩:=hc
   have hA:=vT hE hT
   have hty:∃ u,lq t (aR f)=some u:=by
    generalize ev sv x=s at hp ht
    cases s with
    |pb r t0 q=>cases ht; obtain ⟨u,hu,rfl⟩:=Option.map_eq_some_iff.1 hp; exact ⟨u,hu⟩
    |p e=>
     obtain ⟨te,y⟩:=e
     cases te with
     |ref t1=>
      have ht':some t1=some t:=ht
      cases ht'
      cases y with
      |none=>cases hp
      |some y=>
       have hp':(iI t y (aR f)).map (fun d=>SV.p ⟨.ref d.1,some d.2⟩)=some s':=hp
       obtain ⟨d,hg,rfl⟩:=Option.map_eq_some_iff.1 hp'
       exact ⟨d.1,LC hg (fun s hs=>xg hs)⟩
     |_=>cases ht
    |_=>cases ht
   obtain ⟨u,hu⟩:=hty
   obtain ⟨fs,fl,off,hus,hfl,hat,hoff,hA2⟩:=vv hA hu
   obtain ⟨htg,b,oo,e1,hs⟩:=FK (fun s hs=>tF hs) hx ht hp hat (fun n=>o8 n hu)
   unfold nzT at hz
   rw [htg] at hz
   have hz':u.size≠0:=by simpa using hz
   have hfl':fs[f]?=some fl:=by simpa using hfl
   refine aV.v h hd ?_ hs
   simp only [execOp,ho,e1,Instr.fieldAt,Sem.run_bind,run_underlying hus,Result.andThen_ok,hfl',Instr.sureAddr,Sem.run_pure,fieldPlace,hA2.sizeOf w]
   rw [if_neg hz',hoff,addr_add]; rfl
 ·cases hf
theorem aA.agg {t:Ty} {x:t.den} {v:Value} (h:aA w I tk t x v) (ha:t.isAgg=true):∃ cs:Array Value,v= .agg cs∧ai w I tk t x cs.toList:=by
 unfold aA at h
 simpa [ha] using h
theorem Nu {T:TypeId} {x:Operand} {f:Nat} (hE:eD C.P E) (hV:View sv st) (h:Inv C st tm w I tk) (hd:∀ d,o.dst=some d→d<st.sl.length) (ho:o.op= .field T x f) (hf:opP E o sv=some (true,e)):
  aV C o ds (e.run o.dst st) tm w:=by
 have hx:=fe (ds:=ds) hV h x
 simp only [opP,ho] at hf
 have key:∀ {d r:DV} {v:SV},aA w I tk d.1 d.2 (Act.eval ⟨tm,ds⟩ x)→iI d.1 d.2 (aR f)=some r→E.isT T d.1.frz=true→vP r=some v→aV C o ds (Ef.run o.dst ⟨[],some v⟩ st) tm w:=by
  intro d r v hr hg hT hv
  have hA:=vT hE hT
  obtain ⟨off0,hpa⟩:∃ off,bG d.1.frz (aR f)=some (off,r.1.frz):=by
   have:∀ {n:Nat} {t:Ty} {y:t.den} {r:DV},iI t y (aR n)=some r→∃ off,bG t.frz (aR n)=some (off,r.1.frz):=by
    intro n
    induction n with
    |zero=>
     intro t y r hg
     cases t<;>simp only [aR,iI,reduceCtorEq] at hg
     rename_i a b
     have:(⟨a,y.1⟩:DV)=r:=by cases a<;>simpa [iI] using hg
     subst this
     exact ⟨0,by simp only [Ty.frz,aR,bG]⟩
    |succ n ih=>
     intro t y r hg
     cases t<;>simp only [aR,iI,reduceCtorEq] at hg
     obtain ⟨off,ho⟩:=ih hg
     exact ⟨_,by simp only [Ty.frz,aR,bG,ho,Option.map_some]; rfl⟩
   exact this hg
  have hty:lq d.1.frz (aR f)=some r.1.frz:=by
   have:∀ {n:Nat} {t u:Ty} {off:Nat},bG t (aR n)=some (off,u)→lq t (aR n)=some u:=by
    intro n
    induction n with
    |zero=>
     intro t u off h
     cases t<;>simp only [aR,bG,reduceCtorEq] at h
     rename_i a b
     cases h
     simp only [aR,lq]
    |succ n ih=>
     intro t u off h
     cases t<;>simp only [aR,bG,reduceCtorEq] at h
     obtain ⟨⟨o1,u1⟩,h1,h2⟩:=Option.map_eq_some_iff.1 h
     cases h2
     exact ih h1
   exact this hpa
  obtain ⟨fs,fl,off,hu,hfl,hp,hoff,hA2⟩:=vv hA hty
  have hin:=o8 0 hty
  have hagg:d.1.isAgg=true:=by
   obtain ⟨t,y⟩:=d
   cases t<;>cases f<;>simp [aR,iI] at hg ⊢ <;>rfl
  obtain ⟨cs,e1,hc⟩:=hr.agg hagg
  obtain ⟨off',h5,h6,h7⟩:=kS 0 hc (u:=r.1) (y:=r.2) hg hin
  rw [hp] at h5; simp only [Option.some.injEq,Prod.mk.injEq] at h5
  obtain ⟨v',hv',hr'⟩:=rO hA2 cs off' r.2 w h6
  refine aV.v h hd ?_ (wO hr' hv)
  have hfl':fs[f]?=some fl:=by simpa using hfl
  simp only [execOp,ho,Instr.field,Sem.run_bind,run_underlying hu,Result.andThen_ok,hfl',e1,asAgg,Sem.run_pure]
  rw [hoff,h5.1,hv']; rfl
 split at hf
 ·rename_i d e
  rw [e] at hx
  split at hf
  ·rename_i r hg
   cases hT:E.isT T d.1 with
   |false=>rw [hT] at hf; cases hf
   |true=>
    rw [hT] at hf
    simp only [cond_true,Option.some.injEq,Prod.mk.injEq,true_and] at hf; subst hf
    have hrp:=nM hx.pl hg
    refine key hx.p hg (by rw [Ty.eZ hx.pl]; exact hT) ?_
    have htop:r.1.bL=false:=by obtain ⟨t,y⟩:=r; cases t<;>first|rfl|cases hrp
    unfold vP
    split<;>first|(cases hrp; done)|skip
    rw [htop]; simp only [cond_false,mkS]; rw [hrp]; rfl
  ·cases hf
 ·rename_i d e
  rw [e] at hx
  split at hf
  ·rename_i r hg
   split at hf
   ·rename_i v hv
    cases hT:E.isT T d.1.frz with
    |false=>rw [hT] at hf; cases hf
    |true=>
     rw [hT] at hf
     simp only [cond_true,Option.some.injEq,Prod.mk.injEq,true_and] at hf; subst hf
     exact key hx.2 hg hT hv
   ·cases hf
  ·cases hf
 ·cases hf
theorem P9 (s:ByteArray) (i:Nat) (h:i<s.size):s[i]?=some (s.data.getD i 0):=by
 rw [getElem?_pos s i h]
 have h':i<s.data.size:=h
 simp only [Array.getD,h',dite_true]
 rfl
theorem Nt {T:TypeId} {x i:Operand} (hE:eD C.P E) (hV:View sv st) (h:Inv C st tm w I tk) (hd:∀ d,o.dst=some d→d<st.sl.length) (ho:o.op= .index T x i) (hf:opP E o sv=some (true,e)):
  aV C o ds (e.run o.dst st) tm w:=by
 have hx:=fe (ds:=ds) hV h x
 have hi:=fe (ds:=ds) hV h i
 simp only [opP,ho] at hf
 split at hf
 ·rename_i s k n e1 e2
  rw [e1] at hx; rw [e2] at hi
  have hx':=ow.1 hx
  have hi':=dF.1 hi
  cases hT:E.isT T .str with
  |false=>rw [hT] at hf; cases hf
  |true=>
   rw [hT] at hf
   simp only [cond_true,Option.some.injEq,Prod.mk.injEq,Bool.and_eq_true,decide_eq_true_eq] at hf
   obtain ⟨⟨h0,h1⟩,rfl⟩:=hf
   have hA:=vT hE hT
   have hlt:(n:Int).toNat<s.size:=vU h0 h1
   refine aV.v (x:= .int .u8 ((s.data.getD (n:Int).toNat 0).toNat:Int)) h hd ?_ (dF.2 rfl)
   have hget:=P9 s _ hlt
   simp only [execOp,ho,hx',hi',Instr.index,asIntOf,Sem.run_bind,Sem.run_pure,Result.andThen_ok,run_underlying hA.2]
   rw [if_pos h0,hget]; rfl
 ·rename_i m t l k n e1 e2
  rw [e1] at hx; rw [e2] at hi
  have hi':=dF.1 hi
  cases hT:E.isT T (.arr m t) with
  |false=>rw [hT] at hf; cases hf
  |true=>
   rw [hT] at hf
   simp only [cond_true,Option.some.injEq,Prod.mk.injEq,Bool.and_eq_true,decide_eq_true_eq] at hf
   obtain ⟨⟨h0,h1⟩,rfl⟩:=hf
   obtain ⟨_,e,hu,hA0⟩:=vT hE hT
   have hA:fO C.P e t:=hA0
   have hpl:t.plain=true:=hx.pl
   obtain ⟨cs,e3,hl,hcl,hc⟩:=hx.p.agg rfl
   have hli:l[(n:Int).toNat]?=some (List.getD l (n:Int).toNat t.dflt):=by
    have:(n:Int).toNat<l.length:=by rw [hl]; exact vU h0 h1
    rw [List.getD_eq_getElem?_getD,List.getElem?_eq_getElem this]; rfl
   obtain ⟨v,hv,hr⟩:=rO (t:=t) (hA.frz.symm ▸ hA) cs ((n:Int).toNat*t.size) _ w (hc _ _ hli)
   refine aV.v (v:= .p ⟨t,_⟩) h hd ?_ ⟨hpl,hr⟩
   simp only [execOp,ho,e3,hi',Instr.index,asIntOf,Sem.run_bind,Sem.run_pure,Result.andThen_ok,run_underlying hu]
   rw [if_pos ⟨h0,h1⟩,Sem.run_bind,hA.sizeOf w]
   simp only [Result.andThen_ok]
   rw [hv]; rfl
 ·cases hf
end Go.Own
set_option linter.unusedVariables false
namespace Go.Own
variable {C:Cx} {P:Program} {E:Env} {w w':World} {I I':Nat→Prop} {st sv:St} {tm:Array Value} {tk tk':aU} {ds:List Deferred} {o:Oper} {e:Ef}
theorem GD {t:Ty} {l:List t.den} {v:Value} (hv:aA w I tk (.sl t) l v) {k:Nat} (hk:k<l.length):
  ∃ b oo cap,v= .slice (some ⟨b,oo,none⟩) l.length cap∧l.length≤cap∧aA w I tk (.ref t) (some (l.getD k t.dflt)) (.pointer (some ⟨b,oo+k*t.size,none⟩)):=by
 simp only [aA,Ty.isAgg,Bool.false_eq_true,if_false,ai,List.cons.injEq,and_true] at hv
 obtain ⟨ad,cap,rfl,hcap,hv⟩:=hv
 rcases hv with rfl|⟨hp,b,oo,rfl,hI,hel⟩
 ·simp at hk
 ·have hki:l[k]?=some (l.getD k t.dflt):=by rw [List.getD_eq_getElem?_getD,List.getElem?_eq_getElem hk]; rfl
  obtain ⟨c,hc,ha⟩:=hel k _ hki
  refine ⟨b,oo,cap,rfl,hcap,?_⟩
  simp only [aA,Ty.isAgg,Bool.false_eq_true,if_false,ai]
  exact ⟨hp,b,oo+k*t.size,c,rfl,hI,hc,ha⟩
theorem lU {T e:TypeId} {t:Ty} (hu:P.underlying T=some (.slice e)) (hA:fO P e t) {k:IntKind} {i:Int} {b oo n cap:Nat} (h0:0≤i) (h1:i<n):
  (Instr.indexAt T (.slice (some ⟨b,oo,none⟩) n cap) (.int k i)).run P w= .ok (.pointer (some ⟨b,oo+i.toNat*t.size,none⟩)) w:=by
 simp only [Instr.indexAt,asIntOf,Sem.run_bind,Sem.run_pure,Result.andThen_ok,run_underlying hu]
 rw [if_pos ⟨h0,h1⟩,Sem.run_bind,hA.sizeOf w]
 simp only [Result.andThen_ok,addr_add,Sem.run_pure]
theorem y9 {T e:TypeId} {t:Ty} {n:Nat} (hu:P.underlying T=some (.array n e)) (hA:fO P e t) {k:IntKind} {i:Int} {b oo:Nat} (h0:0≤i) (h1:i<n):
  (Instr.indexAt T (.pointer (some ⟨b,oo,none⟩)) (.int k i)).run P w= .ok (.pointer (some ⟨b,oo+i.toNat*t.size,none⟩)) w:=by
 simp only [Instr.indexAt,asIntOf,Instr.sureAddr,Sem.run_bind,Sem.run_pure,Result.andThen_ok,run_underlying hu]
 rw [if_pos ⟨h0,h1⟩,Sem.run_bind,hA.sizeOf w]
 simp only [Result.andThen_ok,addr_add,Sem.run_pure]
theorem Es {q:Tk} {t:Ty} {x:(Ty.dyn t).den} (hd:aI w I tk q ⟨.dyn t,x⟩):q.ty= .dyn t.frz∧q.len=x.2.length∧q.len≤q.cap∧(0<q.len→∃ b,q.blk=some b∧q.ad=some ⟨b,q.off,none⟩):=by
 obtain ⟨h1,hp,h2,h3,h4,h5⟩:=hd
 refine ⟨h1,h2,by omega,fun hl=> ?_⟩
 rcases h5 with ⟨h5,h6⟩|⟨b,e1,e2,_⟩
 ·omega
 ·exact ⟨b,e1,e2⟩
theorem PN (hV:View sv st) (h:Inv C st tm w I tk) {s:Nat} {t:Ty} {pa:Path} {lo n:Nat} {v:Value} (hv:bf w I tk (.vs s t pa lo n) v) (hok:KO sv s pa=true):
  ∃ q ad cap,tk s=some q∧v= .slice ad n cap∧n≤cap∧(0<n→∃ b o m,ad=some ⟨b,o+lo*t.size,none⟩∧
   ((pa= []∧q.blk=some b∧o=q.off∧q.ty= .dyn t∧lo+n≤q.len)∨(q.at pa=some (b,o,.arr m t)∧q.pin pa∧lo+n≤m))):=by
 obtain ⟨q,hq,hr⟩:=hv
 rcases hr with ⟨rfl,hty,hl,ad',rfl,ha,hn⟩|⟨b,off,m,hat,hin,hl,ad',rfl,ha⟩
 ·simp only [KO] at hok
  split at hok
  ·rename_i t0 x hb
   obtain ⟨q',hq',hd⟩:=h.boxes s _ (hV.box s _ hb)
   rw [hq] at hq'; cases hq'
   obtain ⟨h1,h2,h3,h4⟩:=Es hd
   refine ⟨q,ad',q.cap - lo,hq,rfl,by omega,fun hn0=> ?_⟩
   obtain ⟨b,e1,e2⟩:=h4 (by omega)
   refine ⟨b,q.off,0,?_,.inl ⟨rfl,e1,rfl,hty,hl.1⟩⟩
   rw [ha (by omega),e2]; simp [addr_add]
  ·rename_i n0 t0 x hb
   obtain ⟨q',hq',hd⟩:=h.boxes _ _ (hV.box _ _ hb)
   rw [hq] at hq'; cases hq'
   have h1:q.ty=(Ty.arr n0 t0).frz:=hd.1
   rw [hty] at h1; cases h1
  ·cases hok
 ·refine ⟨q,some ad',m - lo,hq,rfl,by omega,fun hn0=>⟨b,off,m,?_,.inr ⟨hat,hin,hl⟩⟩⟩
  rw [ha (by omega)]
theorem row_of (hV:View sv st) (h:Inv C st tm w I tk) {p:Nat} {t:Ty} {k:Nat} {v:Value} {r:Nat×List t.den} (hv:bf w I tk (.sd ⟨.rid p t,k⟩) v) (hr:rowOf sv p t k=some r):
  ∃ q rt,tk p=some q∧q.ty= .pool t∧q.rows[k]?=some rt∧v=rt.hdr∧kK w I tk rt t r.2:=by
 unfold rowOf at hr
 split at hr
 ·rename_i u l hb
  split at hr
  ·rename_i e
   subst e
   simp only [Option.some.injEq] at hr
   subst hr
   obtain ⟨q',hq',hd⟩:=h.boxes p _ (hV.box p _ hb)
   have hc:ai w I tk (.rid p u) k [v]:=hv.2
   obtain ⟨q,rt,g1,g2,g3,g4⟩:=hc
   rw [g1] at hq'; cases hq'
   obtain ⟨_,_,_,hlen,_,hrow⟩:=hd
   have hk:k<l.length:=by rw [← hlen]; exact (List.getElem?_eq_some_iff.1 g3).1
   refine ⟨_,rt,g1,g2,g3,by simpa using g4,?_⟩
   have hD:List.getD l k (0,[])=l[k]:=by rw [List.getD_eq_getElem?_getD,List.getElem?_eq_getElem hk]; rfl
   show kK w I tk rt u (List.getD l k (0,[])).2
   rw [hD]
   exact hrow k rt _ g3 (List.getElem?_eq_getElem hk)
  ·cases hr
 ·cases hr
theorem D5 {T:TypeId} {x y:Operand} (hE:eD C.P E) (hV:View sv st) (h:Inv C st tm w I tk) (hd:∀ d,o.dst=some d→d<st.sl.length) (ho:o.op= .indexAddr T x y) (hf:opP E o sv=some (true,e)):
  aV C o ds (e.run o.dst st) tm w:=by
 have hx:=fe (ds:=ds) hV h x
 have hy:=fe (ds:=ds) hV h y
 simp only [opP,ho] at hf
 split at hf
 ·rename_i c s' hi
  simp only [Option.some.injEq,Prod.mk.injEq] at hf; obtain ⟨rfl,rfl⟩:=hf
  have fin:∀ {u:Value},(Instr.indexAt T (Act.eval ⟨tm,ds⟩ x) (Act.eval ⟨tm,ds⟩ y)).run C.P w= .ok u w→bf w I tk s' u→aV C o ds (Ef.run o.dst ⟨[],some s'⟩ st) tm w:=by
   intro u hu hr
   refine aV.v h hd ?_ hr
   simp only [execOp,ho]
   rw [Sem.run_bind,hu]; rfl
  unfold Kl at hi
  split at hi
  ·rename_i n t k i hT hyi
   rw [hyi] at hy
   have ey:=dF.1 hy
   split at hi
   ·rename_i htg
    split at hi
    ·rename_i v hp
     simp only [Option.some.injEq,Prod.mk.injEq,Bool.and_eq_true,decide_eq_true_eq] at hi
     obtain ⟨⟨h0,h1⟩,rfl⟩:=hi
     obtain ⟨_,e,hu,hA0⟩:=hE.ty T _ hT
     have hA:fO C.P e t:=hA0
     have hat:bG (.arr n t) [.ix (i:Int).toNat]=some ((i:Int).toNat*t.size,t):=by simp [bG,fK]
     have hin:∀ m,pathIn m (.arr n t) [.ix (i:Int).toNat]:=fun m=>⟨vU h0 h1,by cases t<;>trivial⟩
     obtain ⟨_,b,oo,e1,hs⟩:=FK (by intro s hs lo n; simp at hs; subst hs; simp) hx htg hp hat hin
     exact fin (by rw [e1,ey]; exact y9 hu hA h0 h1) hs
    ·cases hi
   ·cases hi
  ·rename_i t k i hT hyi
   rw [hyi] at hy
   have ey:=dF.1 hy
   obtain ⟨_,e,hu,hA0⟩:=hE.ty T _ hT
   have hA:fO C.P e t:=hA0
   split at hi
   ·rename_i u l e1
    rw [e1] at hx
    split at hi
    ·cases hi
    ·rename_i hne
     simp only [ne_eq,Decidable.not_not] at hne; subst hne
     simp only [Option.some.injEq,Prod.mk.injEq,Bool.and_eq_true,decide_eq_true_eq] at hi
     obtain ⟨⟨h0,h1⟩,rfl⟩:=hi
     obtain ⟨b,oo,cap,e2,_,hr⟩:=GD hx.p (vU h0 h1)
     exact fin (by rw [e2,ey]; exact lU hu hA h0 h1) ⟨hx.pl,hr⟩
   ·rename_i s u e1
    rw [e1] at hx
    split at hi
    ·rename_i t0 l hb
     split at hi
     ·cases hi
     ·rename_i hne
      simp only [ne_eq,Decidable.not_not] at hne; subst hne
      simp only [Option.some.injEq,Prod.mk.injEq,Bool.and_eq_true,decide_eq_true_eq] at hi
      obtain ⟨⟨h0,h1⟩,rfl⟩:=hi
      obtain ⟨q,hq,hty,e2⟩:=hx
      obtain ⟨q',hq',hbr⟩:=h.boxes s _ (hV.box s _ hb)
      rw [hq] at hq'; cases hq'
      obtain ⟨g1,g2,g3,g4⟩:=Es hbr
      have hlt:=vU h0 h1
      obtain ⟨b,f1,f2⟩:=g4 (by omega)
      have hnp:q.ty.fD=false:=by rw [hty]; rfl
      refine fin (u:= .pointer (some ⟨b,q.off+(i:Int).toNat*u.size,none⟩)) ?_ ⟨q,b,_,hq,Tk.KA hnp f1 (by rw [hty]; simp [bG,fK]),by rw [Tk.oL hnp,hty]; exact ⟨by omega,by cases u<;>trivial⟩,rfl⟩
      rw [e2,ey]; unfold Tk.hdr; rw [f2]
      exact lU hu hA h0 (by omega)
    ·cases hi
   ·rename_i s u pa lo n e1
    rw [e1] at hx
    split at hi
    ·cases hi
    ·rename_i hne
     simp only [ne_eq,not_or,Decidable.not_not,Bool.not_eq_false] at hne
     obtain ⟨rfl,hok⟩:=hne
     simp only [Option.some.injEq,Prod.mk.injEq,Bool.and_eq_true,decide_eq_true_eq] at hi
     obtain ⟨⟨h0,h1⟩,rfl⟩:=hi
     obtain ⟨q,ad,cap,hq,e2,hnc,hadr⟩:=PN hV h hx hok
     have hlt:=vU h0 h1
     obtain ⟨b,oo,m,e3,hc⟩:=hadr (by omega)
     have hp:q.at (pa++ [.ix (lo+(i:Int).toNat)])=some (b,oo+(lo+(i:Int).toNat)*u.size,u)∧q.pin (pa++ [.ix (lo+(i:Int).toNat)]):=by
      rcases hc with ⟨rfl,hb,rfl,hty,hl⟩|⟨hat,hin,hl⟩
      ·have hnp:q.ty.fD=false:=by rw [hty]; rfl
       refine ⟨Tk.KA hnp hb (by rw [hty]; simp [bG,fK]),?_⟩
       rw [Tk.oL hnp,hty]
       exact ⟨by omega,by cases u<;>trivial⟩
      ·exact ⟨Tk.yD hat (by simp [bG,fK]),Tk.vN hat hin fun n=>⟨by omega,by cases u<;>trivial⟩⟩
     refine fin (u:= .pointer (some ⟨b,oo+(lo+(i:Int).toNat)*u.size,none⟩)) ?_ ⟨q,b,_,hq,hp.1,hp.2,rfl⟩
     rw [e2,ey,e3,lU hu hA h0 h1]
     congr 4
     rw [Nat.add_mul]; omega
   ·simp at hi
   ·rename_i p u kk e1
    rw [e1] at hx
    split at hi
    ·rename_i r hr
     split at hi
     ·cases hi
     ·rename_i hne
      simp only [ne_eq,Decidable.not_not] at hne; subst hne
      simp only [Option.some.injEq,Prod.mk.injEq,Bool.and_eq_true,decide_eq_true_eq] at hi
      obtain ⟨⟨h0,h1⟩,rfl⟩:=hi
      obtain ⟨q,rt,g1,g2,g3,e2,hrow⟩:=row_of hV h hx hr
      have hlt:=vU h0 h1
      obtain ⟨f1,f2,f3⟩:=hrow
      rcases f3 with ⟨_,f3⟩|⟨b,f4,f5,f6⟩
      ·omega
      ·refine fin (u:= .pointer (some ⟨b,rt.off+(i:Int).toNat*u.size,none⟩)) ?_ ⟨q,b,_,g1,?_,?_,rfl⟩
       ·rw [e2,ey]; unfold RTk.hdr; rw [f5]
        exact lU hu hA h0 (by omega)
       ·unfold Tk.at; rw [g2]
        simp only [Tk.at2,g3,f4,bG,fK,Option.map_some,Nat.add_zero]
       ·unfold Tk.pin; rw [g2]
        exact ⟨rt,g3,by omega,by cases u<;>trivial⟩
    ·cases hi
   ·cases hi
  ·cases hi
 ·cases hf
theorem yB (hV:View sv st) (h:Inv C st tm w I tk) {n:Int} {x:Option Operand} {i:Int} (hb:iJ n (x.map (ev sv))=some i):
  (x=none∧i=n)∨∃ q k,x=some q∧Act.eval ⟨tm,ds⟩ q= .int k i:=by
 cases x with
 |none=>left; simp only [Option.map_none,iJ,Option.some.injEq] at hb; exact ⟨rfl,hb.symm⟩
 |some q=>
  right
  have hq:=fe (ds:=ds) hV h q
  simp only [Option.map_some] at hb
  unfold iJ at hb
  split at hb
  ·rename_i heq; cases heq
  ·rename_i k j heq
   simp only [Option.some.injEq] at heq
   rw [heq] at hq
   simp only [Option.some.injEq] at hb; subst hb
   exact ⟨q,k,rfl,dF.1 hq⟩
  ·cases hb
theorem sZ (hV:View sv st) (h:Inv C st tm w I tk) {b:Bool} {len cap:Nat} {lo hi:Option Operand} {l u:Int} (h1:iJ 0 (lo.map (ev sv))=some l) (h2:iJ len (hi.map (ev sv))=some u)
  (h3:0≤l) (h4:l≤u) (h5:u≤(len:Int)) (h6:len≤cap):
  (Instr.sliceBounds b len cap (lo.map (Act.eval ⟨tm,ds⟩)) (hi.map (Act.eval ⟨tm,ds⟩)) none).run P w= .ok (l.toNat,u.toNat,cap) w:=by
 have c1:0≤u∧u≤(cap:Int):=by omega
 have e1:(u.toNat:Int)=u:=by omega
 rcases yB (ds:=ds) hV h h1 with ⟨rfl,rfl⟩|⟨q,k,rfl,hq⟩
 ·rcases yB (ds:=ds) hV h h2 with ⟨rfl,rfl⟩|⟨q2,k2,rfl,hq2⟩
  ·simp [Instr.sliceBounds]
  ·simp [Instr.sliceBounds,Instr.sliceBound,hq2,asIntOf,c1]
 ·rcases yB (ds:=ds) hV h h2 with ⟨rfl,rfl⟩|⟨q2,k2,rfl,hq2⟩
  ·have c2:0≤l∧l≤(len:Int):=by omega
   simp [Instr.sliceBounds,Instr.sliceBound,hq,asIntOf,c2]
  ·have c2:0≤l∧l≤(u.toNat:Int):=by omega
   simp only [Instr.sliceBounds,Instr.sliceBound,hq,hq2,asIntOf,Option.map_some,Sem.run_bind,Sem.run_pure,Result.andThen_ok]
   rw [if_pos c1]
   simp only [Sem.run_pure,Result.andThen_ok]
   rw [if_pos c2]
   simp only [Sem.run_pure,Result.andThen_ok]
theorem addr_add_add (a:Addr) (m n:Nat):(a.add m).add n=a.add (m+n):=by
 unfold Addr.add
 by_cases h1:n=0
 ·subst h1; simp
 ·by_cases h2:m=0
  ·subst h2; simp [h1]
  ·simp [h1,h2]; omega
theorem rC {T e:TypeId} {t:Ty} (hu:C.P.underlying T=some (.slice e)) (hA:fO C.P e t) (hV:View sv st) (h:Inv C st tm w I tk) {ad:Option Addr} {len cap:Nat} {lo hi:Option Operand} {l u:Int} (h1:iJ 0 (lo.map (ev sv))=some l) (h2:iJ len (hi.map (ev sv))=some u)
  (h3:0≤l) (h4:l≤u) (h5:u≤(len:Int)) (h6:len≤cap):
  (Instr.sliceAt T (.slice ad len cap) (lo.map (Act.eval ⟨tm,ds⟩)) (hi.map (Act.eval ⟨tm,ds⟩)) none).run C.P w= .ok (.slice (if cap=l.toNat then ad else ad.map (·.add (l.toNat*t.size))) (u.toNat - l.toNat) (cap - l.toNat)) w:=by
 have hb:=sZ (P:=C.P) (ds:=ds) (b:=true) hV h h1 h2 h3 h4 h5 h6
 simp only [Instr.sliceAt,Sem.run_bind,run_underlying hu,Result.andThen_ok,Instr.slice,hb,hA.sizeOf w,Sem.run_pure]
theorem GA {t:Ty} {l:List t.den} {ad ad':Option Addr} {len cap lo n:Nat} (hr:aA w I tk (.sl t) l (.slice ad len cap)) (hln:lo+n≤l.length) (had:lo<cap→ad'=ad.map (·.add (lo*t.size))):
  aA w I tk (.sl t) ((l.drop lo).take n) (.slice ad' n (cap - lo)):=by
 simp only [aA,Ty.isAgg,Bool.false_eq_true,if_false,ai,List.cons.injEq,Value.slice.injEq,and_true] at hr
 obtain ⟨ad2,cap',⟨rfl,rfl,rfl⟩,hcap,hr⟩:=hr
 simp only [aA,Ty.isAgg,Bool.false_eq_true,if_false]
 have hlen:((l.drop lo).take n).length=n:=by simp; omega
 refine ⟨_,_,by rw [hlen],by rw [hlen]; omega,?_⟩
 rcases hr with rfl|⟨hp,b,o,rfl,hI,hel⟩
 ·left; simp
 ·by_cases hn0:n=0
  ·left; subst hn0; simp
  ·right
   rw [had (by omega)]
   refine ⟨hp,b,o+lo*t.size,by simp [addr_add],hI,fun i x hx=> ?_⟩
   obtain ⟨hi,hx⟩:=rP _ _ _ _ _ hx
   obtain ⟨c,hc1,hc2⟩:=hel _ _ hx
   refine ⟨c,hc1,?_⟩
   have:o+lo*t.size+i*t.size=o+(lo+i)*t.size:=by rw [Nat.add_mul]; omega
   rw [this]; exact hc2
theorem sN {l h n:Int}:inB l h n=true↔(0≤l∧l≤h)∧h≤n:=by simp [inB]
theorem Nr {T:TypeId} {x:Operand} {lo hi:Option Operand} (hE:eD C.P E) (hV:View sv st) (h:Inv C st tm w I tk) (hd:∀ d,o.dst=some d→d<st.sl.length) (ho:o.op= .slice T x lo hi none) (hf:opP E o sv=some (true,e)):
  aV C o ds (e.run o.dst st) tm w:=by
 have hx:=fe (ds:=ds) hV h x
 simp only [opP,ho] at hf
 split at hf
 ·rename_i c s' hs
  simp only [Option.some.injEq,Prod.mk.injEq] at hf; obtain ⟨rfl,rfl⟩:=hf
  have fin:∀ {u:Value},(Instr.sliceAt T (Act.eval ⟨tm,ds⟩ x) (lo.map (Act.eval ⟨tm,ds⟩)) (hi.map (Act.eval ⟨tm,ds⟩)) none).run C.P w= .ok u w→bf w I tk s' u→aV C o ds (Ef.run o.dst ⟨[],some s'⟩ st) tm w:=by
   intro u hu hr
   refine aV.v h hd ?_ hr
   simp only [execOp,ho,Option.map_none]
   rw [Sem.run_bind,hu]; rfl
  unfold MK at hs
  split at hs
  ·rename_i s hT ex
   rw [ex] at hx
   have e1:=ow.1 hx
   split at hs
   ·rename_i l u hl hu
    simp only [Option.some.injEq,Prod.mk.injEq] at hs
    obtain ⟨hc,rfl⟩:=hs
    obtain ⟨⟨h3,h4⟩,h5⟩:=sN.1 hc
    obtain ⟨_,hue⟩:=hE.ty T _ hT
    have hb:=sZ (P:=C.P) (ds:=ds) (b:=false) hV h hl hu h3 h4 h5 (Nat.le_refl _)
    refine fin (u:= .string (s.extract l.toNat u.toNat)) ?_ (ow.2 rfl)
    simp only [e1,Instr.sliceAt,Sem.run_bind,run_underlying hue,Result.andThen_ok,Instr.slice,hb,Sem.run_pure,Option.isSome_none,Bool.false_eq_true,if_false]
   ·cases hs
  ·rename_i t0 t1 s hT ex
   rw [ex] at hx
   split at hs
   ·rename_i l u hl hu
    split at hs
    ·rename_i ht
     subst ht
     simp only [Option.some.injEq,Prod.mk.injEq] at hs
     obtain ⟨hc,rfl⟩:=hs
     obtain ⟨⟨h3,h4⟩,h5⟩:=sN.1 hc
     obtain ⟨_,eT,hue,hAe⟩:=hE.ty T _ hT
     have hr0:=hx.p
     have hr:=hx.p
     simp only [aA,Ty.isAgg,Bool.false_eq_true,if_false,ai,List.cons.injEq,and_true] at hr
     obtain ⟨ad,cap,e2,hcap,_⟩:=hr
     rw [e2] at hr0
     have hrun:=rC (ds:=ds) (t:=t1) hue hAe hV h (ad:=ad) (cap:=cap) hl hu h3 h4 h5 hcap
     exact fin (by rw [e2]; exact hrun) ⟨hx.pl,GA hr0 (by omega) (fun hlt=>by rw [if_neg (by omega)])⟩
    ·cases hs
   ·cases hs
  ·rename_i t0 g t1 hT ex
   rw [ex] at hx
   split at hs
   ·rename_i t2 s hb
    split at hs
    ·rename_i l u hl hu
     split at hs
     ·rename_i ht
      subst ht
      simp only [Option.some.injEq,Prod.mk.injEq] at hs
      obtain ⟨hc,rfl⟩:=hs
      obtain ⟨⟨h3,h4⟩,h5⟩:=sN.1 hc
      obtain ⟨_,eT,hue,hAe⟩:=hE.ty T _ hT
      obtain ⟨q,hq,hty,e2⟩:=hx
      obtain ⟨q',hq',hbr⟩:=h.boxes g _ (hV.box g _ hb)
      rw [hq] at hq'; cases hq'
      obtain ⟨g1,g2,g3,g4⟩:=Es hbr
      rw [← g2] at hu h5
      have hrun:=rC (ds:=ds) (t:=t1) hue hAe hV h (ad:=q.ad) (cap:=q.cap) hl hu h3 h4 h5 g3
      refine fin (by rw [e2]; exact hrun) ⟨q,hq,.inl ⟨rfl,hty,⟨by omega,g3⟩,_,rfl,fun hlt=>by rw [if_neg (by omega)],by split<;>simp⟩⟩
     ·cases hs
    ·cases hs
   ·cases hs
  ·rename_i t0 g t1 pa a n hT ex
   rw [ex] at hx
   split at hs
   ·rename_i l u hl hu
    split at hs
    ·rename_i ht
     subst ht
     simp only [Option.some.injEq,Prod.mk.injEq] at hs
     obtain ⟨hc,rfl⟩:=hs
     obtain ⟨⟨h3,h4⟩,h5⟩:=sN.1 hc
     obtain ⟨_,eT,hue,hAe⟩:=hE.ty T _ hT
     obtain ⟨q,hq,hv⟩:=hx
     rcases hv with ⟨rfl,hty,hll,ad',e2,ha,hn⟩|⟨b,off,m,hat,hin,hll,ad',e2,ha⟩
     ·have hcap:n≤q.cap - a:=by omega
      ·have hrun:=rC (ds:=ds) (t:=t1) hue hAe hV h (ad:=ad') (len:=n) (cap:=q.cap - a) hl hu h3 h4 h5 hcap
       refine fin (by rw [e2]; exact hrun) ⟨q,hq,.inl ⟨rfl,hty,by omega,_,by rw [Nat.sub_sub],fun hlt=> ?_,by split<;>simp [hn]⟩⟩
       rw [if_neg (by omega),ha (by omega),Option.map_map]
       congr 1
       funext z
       simp only [Function.comp_apply,addr_add_add,Nat.add_mul]
     ·have hrun:=rC (ds:=ds) (t:=t1) hue hAe hV h (ad:=some ad') (len:=n) (cap:=m - a) hl hu h3 h4 h5 (by omega)
      refine fin (by rw [e2]; exact hrun) ⟨q,hq,.inr ⟨b,off,m,hat,hin,by omega,if m - a=l.toNat then ad' else ad'.add (l.toNat*t1.size),?_,fun hlt=> ?_⟩⟩
      ·split<;>simp [Nat.sub_sub]
      ·rw [if_neg (by omega),ha (by omega),addr_add,Nat.add_mul,Nat.add_assoc]
    ·cases hs
   ·cases hs
  ·rename_i t0 hT ex
   rw [ex] at hx
   have e1:Act.eval ⟨tm,ds⟩ x= .slice none 0 0:=hx
   split at hs
   ·rename_i l u hl hu
    simp only [Option.some.injEq,Prod.mk.injEq] at hs
    obtain ⟨hc,rfl⟩:=hs
    obtain ⟨⟨h3,h4⟩,h5⟩:=sN.1 hc
    obtain ⟨_,eT,hue,hAe⟩:=hE.ty T _ hT
    have hrun:=rC (ds:=ds) (t:=t0) hue hAe hV h (ad:=none) (len:=0) (cap:=0) hl (by simpa using hu) h3 h4 (by simpa using h5) (Nat.le_refl _)
    refine fin (u:= .slice none 0 0) ?_ rfl
    rw [e1,hrun]
    have:u.toNat=0:=by omega
    simp [this]
   ·cases hs
  ·rename_i m u0 g n t1 pa hT ex
   rw [ex] at hx
   split at hs
   ·rename_i l u hl hu
    split at hs
    ·rename_i ht
     obtain ⟨rfl,rfl⟩:=ht
     simp only [Option.some.injEq,Prod.mk.injEq] at hs
     obtain ⟨hc,rfl⟩:=hs
     obtain ⟨⟨h3,h4⟩,h5⟩:=sN.1 hc
     obtain ⟨_,eT,hue,hAe⟩:=hE.ty T _ hT
     obtain ⟨_,e2,hue2,hA2⟩:=(show fO C.P eT (.arr n t1) from hAe)
     have hA2':fO C.P e2 t1:=hA2
     obtain ⟨q,b,off,h6,h7,h8,e3⟩:=hx
     have hb:=sZ (P:=C.P) (ds:=ds) (b:=false) hV h hl hu h3 h4 h5 (Nat.le_refl _)
     refine fin (u:= .slice (some (if n=l.toNat then ⟨b,off,none⟩ else (⟨b,off,none⟩:Addr).add (l.toNat*t1.size))) (u.toNat - l.toNat) (n - l.toNat)) ?_ ⟨q,h6,.inr ⟨b,off,n,h7,h8,by omega,_,rfl,fun hlt=> ?_⟩⟩
     ·simp only [e3,Instr.sliceAt,Sem.run_bind,run_underlying hue,run_underlying hue2,Result.andThen_ok,Instr.slice,Instr.sureAddr,asAddr,Sem.run_pure,hb,hA2'.sizeOf w]
     ·rw [if_neg (by omega),addr_add]
    ·cases hs
   ·cases hs
  ·rename_i m u0 g n t1 pa hT ex
   rw [ex] at hx
   split at hs
   ·rename_i l u hl hu
    split at hs
    ·rename_i ht
     obtain ⟨rfl,rfl⟩:=ht
     simp only [Option.some.injEq,Prod.mk.injEq] at hs
     obtain ⟨hc,rfl⟩:=hs
     obtain ⟨⟨h3,h4⟩,h5⟩:=sN.1 hc
     obtain ⟨_,e2,hue2,hA2⟩:=hE.ty T _ hT
     have hA2':fO C.P e2 t1:=hA2
     obtain ⟨q,b,off,h6,h7,h8,e3⟩:=hx
     have hb:=sZ (P:=C.P) (ds:=ds) (b:=false) hV h hl hu h3 h4 h5 (Nat.le_refl _)
     refine fin (u:= .slice (some (if n=l.toNat then ⟨b,off,none⟩ else (⟨b,off,none⟩:Addr).add (l.toNat*t1.size))) (u.toNat - l.toNat) (n - l.toNat)) ?_ ⟨q,h6,.inr ⟨b,off,n,h7,h8,by omega,_,rfl,fun hlt=> ?_⟩⟩
     ·simp only [e3,Instr.sliceAt,Sem.run_bind,run_underlying hue2,Result.andThen_ok,Instr.sureAddr,Sem.run_pure,hb,hA2'.sizeOf w]
     ·rw [if_neg (by omega),addr_add]
    ·cases hs
   ·cases hs
  ·cases hs
 ·cases hf
end Go.Own
set_option linter.unusedVariables false
namespace Go.Own
variable {C:Cx} {P:Program} {E:Env} {w w':World} {I I':Nat→Prop} {st sv:St} {tm:Array Value} {tk tk':aU} {ds:List Deferred} {o:Oper} {e:Ef}
theorem Blk.same {b:Nat} {e1 e2:TypeId} {c1 c2:List Value} (h1:Blk w b e1 c1) (h2:Blk w b e2 c2):e1=e2∧c1=c2:=by
 obtain ⟨a,fr,g1,rfl,_⟩:=h1
 obtain ⟨a',fr',g2,rfl,_⟩:=h2
 rw [g1] at g2
 simp only [Option.some.injEq,Obj.cells.injEq] at g2
 exact ⟨g2.2.1,by rw [g2.1]⟩
theorem Fv:∀ {pa:Path} {t:Ty} {x:t.den} {d z:DV},qR t x pa d=some z→t.bL=false→d.1.bL=false→z.1.bL=false
 | [],t,x,d,z,h,_,hd=>by
  have:d=z:=by cases t<;>simpa [qR] using h
  subst this; exact hd
 |s::pa,t,x,d,z,h,ht,hd=>by
  cases t<;>cases s<;>simp only [qR,reduceCtorEq] at h<;>first|cases ht; done|skip
  ·obtain ⟨y,_,rfl⟩:=Option.map_eq_some_iff.1 h; rfl
  ·obtain ⟨y,_,rfl⟩:=Option.map_eq_some_iff.1 h; rfl
  ·obtain ⟨y,_,h2⟩:=Option.bind_eq_some_iff.1 h
   split at h2
   ·cases h2; rfl
   ·cases h2
theorem FN {t0:Ty} {l:List t0.den} {nl:Bool} {x z:DV} {pa:Path} {b e o cap off:Nat} {c:List Value} (hr:jc w I tk b e o cap t0 l) (hcap:l.length≤cap) (hs:qR (.dyn t0) (nl,l) pa x=some z) (hin:pathIn l.length (.dyn t0.frz) pa)
  (hat:bG (.dyn t0.frz) pa=some (off,x.1.frz)) (hx:x.1.bL=false) (hk:x.1.known=true) (hc:ai w I tk x.1 x.2 c) (hm:∀ k,I k→w'.heap[k]?=w.heap[k]?) (hB:∀ cs,Blk w b e cs→o+off+x.1.size≤cs.length→Blk w' b e (splice cs (o+off) c)):
  ∃ l':List t0.den,z=⟨.dyn t0,(nl,l')⟩∧l'.length=l.length∧jc w' I tk b e o cap t0 l'∧∃ cs,Blk w b e cs∧o+off+x.1.size≤cs.length:=by
 obtain ⟨cs,e3,e4,e5⟩:=hr
 have hl:=hc.length
 cases pa with
 |nil=>
  rw [fK] at hat
  simp only [Option.some.injEq,Prod.mk.injEq] at hat
  exfalso
  obtain ⟨t1,y⟩:=x
  cases t1<;>first|(cases hx; done)|(cases hk; done)|(simp [Ty.frz] at hat; done)
 |cons s pa=>
  cases s<;>simp only [qR,reduceCtorEq] at hs
  rename_i i
  obtain ⟨⟨z1,z2⟩,hz,hs2⟩:=Option.bind_eq_some_iff.1 hs
  split at hs2
  ·rename_i hzt
   dsimp only at hzt
   subst hzt
   cases hs2
   simp only [pathIn] at hin
   simp only [bG] at hat
   obtain ⟨⟨o1,u1⟩,ho1,e⟩:=Option.map_eq_some_iff.1 hat
   simp only [Prod.mk.injEq,Ty.fA] at e
   obtain ⟨rfl,rfl⟩:=e
   have hi:i<l.length:=by omega
   have hxi:l[i]?=some (List.getD l i z1.dflt):=by
    rw [List.getD_eq_getElem?_getD,List.getElem?_eq_getElem hi]; rfl
   obtain ⟨ci,hci,hvi⟩:=e5 i _ hxi
   have hli:=hci.length
   obtain ⟨f1,f2,f3⟩:=vK l.length (u:=x.1) (y:=x.2) (t':=z1) (x':=z2) hci hz hin.2 hc ho1
   have hm1:(i+1)*z1.size≤cap*z1.size:=Nat.mul_le_mul_right _ (by omega)
   rw [Nat.add_mul,Nat.one_mul] at hm1
   have hlen:o+(i*z1.size+o1)+c.length≤cs.length:=by rw [hl]; omega
   refine ⟨l.set i z2,rfl,by simp,⟨splice cs (o+(i*z1.size+o1)) c,hB _ e3 (by omega),by rw [iH _ _ _ hlen]; exact e4,fun j y hj=> ?_⟩,cs,e3,by omega⟩
   simp only [List.getElem?_set] at hj
   by_cases hij:i=j
   ·subst hij
    rw [if_pos rfl,if_pos hi] at hj
    simp only [Option.some.injEq] at hj
    subst hj
    refine ⟨_,f1.mono (fun _ hb=>hb) hm (aU.le.refl _),fun k v hk=> ?_⟩
    rw [dn _ _ _ (by omega)] at hk
    rw [dn _ _ _ hlen]
    by_cases hq:o1≤k∧k<o1+c.length
    ·rw [if_pos hq] at hk
     rw [if_pos (by omega),← hk]; congr 1; omega
    ·rw [if_neg hq] at hk
     have hk':k<ci.length:=(List.getElem?_eq_some_iff.1 hk).1
     rw [if_neg (by omega)]
     exact hvi k v hk
   ·rw [if_neg hij] at hj
    obtain ⟨cj,hcj,hvj⟩:=e5 j y hj
    refine ⟨cj,hcj.mono (fun _ hb=>hb) hm (aU.le.refl _),fun k v hk=> ?_⟩
    have hk':k<cj.length:=(List.getElem?_eq_some_iff.1 hk).1
    have hlj:=hcj.length
    rw [dn _ _ _ hlen,if_neg]
    ·exact hvj k v hk
    ·rintro ⟨q1,q2⟩
     rcases Nat.lt_or_gt_of_ne hij with hlt|hgt
     ·have:=Nat.mul_le_mul_right z1.size (show i+1≤j by omega)
      rw [Nat.add_mul,Nat.one_mul] at this; omega
     ·have:=Nat.mul_le_mul_right z1.size (show j+1≤i by omega)
      rw [Nat.add_mul,Nat.one_mul] at this; omega
  ·cases hs2
theorem G5 {q:Tk} {d x z:DV} {pa:Path} {b off:Nat} {c:List Value} (hd:aI w I tk q d) (hb:q.blk=some b) (hs:qR d.1 d.2 pa x=some z) (hin:pathIn q.len q.ty pa)
  (hat:bG q.ty pa=some (off,x.1.frz)) (hx:x.1.bL=false) (hk:x.1.known=true) (hc:ai w I tk x.1 x.2 c) (hI:¬ I b) (hw:Wrote b w w') (hB:∀ cs,Blk w b q.tid cs→q.off+off+x.1.size≤cs.length→Blk w' b q.tid (splice cs (q.off+off) c)):
  aI w' I tk q z∧∃ cs,Blk w b q.tid cs∧q.off+off+x.1.size≤cs.length:=by
 have hm:∀ k,I k→w'.heap[k]?=w.heap[k]?:=fun k hk=>hw.other k (by rintro rfl; exact hI hk)
 have hl:=hc.length
 obtain ⟨dt,dx⟩:=d
 cases ht:dt.bL with
 |false=>
  obtain ⟨h1,h2,b',cs,h3,h4,h5⟩:=(aI.str ht).1 hd
  rw [hb] at h3; cases h3
  rw [h1] at hin hat
  obtain ⟨e1,e2,e3⟩:=vK q.len (u:=x.1) (y:=x.2) (t':=z.1) (x':=z.2) h5 hs hin hc hat
  refine ⟨(aI.str (t:=z.1) (x:=z.2) (Fv hs ht hx)).2 ⟨by rw [e3]; exact h1,h2,b,splice cs (q.off+off) c,hb,?_,?_⟩,cs,h4,by rw [h2,h5.length]; omega⟩
  ·exact hB _ h4 (by rw [h2,h5.length]; omega)
  ·rw [h2,Nat.zero_add]
   exact (e1.mono (fun _ hb=>hb) (hm) (aU.le.refl _))
 |true=>
  cases dt<;>first|cases ht; done|skip
  ·rename_i t0
   obtain ⟨h1,hp0,h2,h3,h4,h5⟩:=hd
   rw [h1] at hin hat
   rcases h5 with ⟨h5,h6⟩|⟨b',e1,e2,e3⟩
   ·rw [hb] at h5; cases h5
   ·rw [hb] at e1; cases e1
    obtain ⟨l',rfl,g1,g2,g3⟩:=FN (nl:=dx.1) e3 h3 hs (by rw [← h2]; exact hin) hat hx hk hc hm hB
    exact ⟨⟨h1,hp0,by rw [h2,g1],by rw [g1]; exact h3,h4,.inr ⟨b,hb,e2,g2⟩⟩,g3⟩
  ·cases pa with
   |nil=>
    obtain ⟨h1,_⟩:=hd
    rw [h1,fK] at hat
    simp only [Option.some.injEq,Prod.mk.injEq] at hat
    exfalso
    obtain ⟨t1,y⟩:=x
    cases t1<;>first|(cases hx; done)|(cases hk; done)|(simp [Ty.frz] at hat; done)
   |cons s pa=>cases s<;>simp [qR] at hs
  ·obtain ⟨_,_,h,_⟩:=hd
   rw [hb] at h; cases h
theorem Apart.flags {t:Ty} {rows:List RTk} {l l':List (Nat×List t.den)} (h:Apart t rows l) (hl:l'.length=l.length) (hf:∀ k,(List.getD l' k (0,[])).1=(List.getD l k (0,[])).1):Apart t rows l':=by
 intro k r f x hr hx
 have hk:k<l.length:=by have:=(List.getElem?_eq_some_iff.1 hx).1; omega
 have e:(List.getD l k (0,[])).1=f:=by rw [← hf,List.getD_eq_getElem?_getD,hx]; rfl
 have hx2:l[k]?=some (f,l[k].2):=by
  rw [List.getElem?_eq_getElem hk]
  rw [List.getD_eq_getElem?_getD,List.getElem?_eq_getElem hk] at e
  rw [← e]; rfl
 obtain ⟨a1,a2⟩:=h k r f _ hr hx2
 exact ⟨a1,fun k' r' b hr' hne hb hb'=>by rw [hf]; exact a2 k' r' b hr' hne hb hb'⟩
theorem Ng {q:Tk} {t0:Ty} {l:List (Nat×List t0.den)} {x z:DV} {pa:Path} {b off:Nat} {c:List Value} (hd:aI w I tk q ⟨.pool t0,l⟩) (hs:qR (.pool t0) l pa x=some z) (hat:q.at pa=some (b,off,x.1.frz)) (hin:q.pin pa)
  (hfl:∀ k r,pa= .ix k::r→(List.getD l k (0,[])).1=0) (hx:x.1.bL=false) (hk:x.1.known=true) (hc:ai w I tk x.1 x.2 c) (hI:¬ I b):
  aI (w.setCells b off c) I tk q z∧q.own b∧∃ e cs,Blk w b e cs∧off+x.1.size≤cs.length:=by
 have hw:=Wrote.cells b c off w
 have hm:∀ k,I k→(w.setCells b off c).heap[k]?=w.heap[k]?:=fun k hk=>hw.other k (by rintro rfl; exact hI hk)
 have hl:=hc.length
 obtain ⟨h1,hp,h0,hlen,hap,hrow⟩:=hd
 have hfr:=Ty.eZ hp
 unfold Tk.at at hat
 unfold Tk.pin at hin
 rw [h1] at hat hin
 simp only at hat hin
 cases pa with
 |nil=>simp [Tk.at2] at hat
 |cons s pa=>
  cases s<;>simp only [Tk.at2,reduceCtorEq] at hat
  rename_i k
  obtain ⟨r,hr,hin⟩:=hin
  rw [hr] at hat
  simp only at hat
  cases hb:r.blk with
  |none=>rw [hb] at hat; cases hat
  |some b'=>
   cases hpa:bG (.dyn t0) pa with
   |none=>rw [hb,hpa] at hat; cases hat
   |some ou=>
    obtain ⟨o,u⟩:=ou
    rw [hb,hpa] at hat
    simp only [Option.some.injEq,Prod.mk.injEq] at hat
    obtain ⟨rfl,rfl,hu⟩:=hat
    have hk':k<l.length:=by rw [← hlen]; exact (List.getElem?_eq_some_iff.1 hr).1
    have hlk:l[k]?=some l[k]:=List.getElem?_eq_getElem hk'
    have hD:List.getD l k (0,[])=l[k]:=by rw [List.getD_eq_getElem?_getD,hlk]; rfl
    obtain ⟨g1,g2,g3⟩:=hrow k r _ hr hlk
    simp only [qR] at hs
    obtain ⟨z1,hz1,hs2⟩:=Option.bind_eq_some_iff.1 hs
    rw [hD] at hz1
    rcases g3 with ⟨g3,_⟩|⟨b2,e1,e2,e3⟩
    ·rw [hb] at g3; cases g3
    ·rw [hb] at e1; cases e1
     obtain ⟨l',rfl,f1,f2,cs,f3,f4⟩:=FN (w':=w.setCells b' (r.off+o) c) (nl:=false) (x:=x) (off:=o) (c:=c) e3 g2 hz1 (by rw [hfr,← g1]; exact hin) (by rw [hfr,hpa,hu]) hx hk hc hm (fun cs hcs hle=>hcs.setCells (by rw [hl]; exact hle))
     simp only [dif_pos] at hs2
     simp only [Option.some.injEq] at hs2
     subst hs2
     have hf0:l[k].1=0:=by rw [← hD]; exact hfl k pa rfl
     obtain ⟨_,apk⟩:=hap k r _ _ hr hlk
     refine ⟨⟨h1,hp,h0,by simpa using hlen,?_,?_⟩,Tk.uS hr hb,r.tid,cs,f3,f4⟩
     ·refine hap.flags (by simp) fun k2=> ?_
      rw [List.getD_eq_getElem?_getD,List.getElem?_set]
      by_cases e:k=k2
      ·subst e
       rw [if_pos rfl,if_pos hk']; rfl
      ·rw [if_neg e,← List.getD_eq_getElem?_getD]
     ·intro k2 r2 fx hr2 hx2
      rw [List.getElem?_set] at hx2
      by_cases e:k=k2
      ·subst e
       rw [if_pos rfl,if_pos hk'] at hx2
       simp only [Option.some.injEq] at hx2
       subst hx2
       rw [hr] at hr2; cases hr2
       exact ⟨by rw [g1,f1],by rw [f1]; exact g2,.inr ⟨b',hb,e2,f2⟩⟩
      ·rw [if_neg e] at hx2
       refine (hrow k2 r2 fx hr2 hx2).world (fun _ hb=>hb) hm (aU.le.refl _) fun b3 hb3=>hw.other b3 ?_
       rintro rfl
       exact (apk k2 r2 b3 hr2 (fun e'=>e e'.symm) hb hb3).1 hf0
theorem QM {q:Tk} {d x z:DV} {pa:Path} {b off:Nat} {c:List Value} (hd:aI w I tk q d) (hb:q.blk=some b) (hs:qR d.1 d.2 pa x=some z) (hin:pathIn q.len q.ty pa)
  (hat:bG q.ty pa=some (off,x.1.frz)) (hx:x.1.bL=false) (hk:x.1.known=true) (hc:ai w I tk x.1 x.2 c) (hI:¬ I b):
  aI (w.setCells b (q.off+off) c) I tk q z∧∃ cs,Blk w b q.tid cs∧q.off+off+x.1.size≤cs.length:=
 G5 hd hb hs hin hat hx hk hc hI (Wrote.cells b c (q.off+off) w) fun cs h1 h2=>h1.setCells (by rw [hc.length]; exact h2)
theorem qg:∀ {t:Ty},t.plain=true→mentions t= []:=by
 intro t
 induction t with
 |pair a b iha ihb=>intro hp; simp only [Ty.plain,Bool.and_eq_true] at hp; simp [mentions,iha hp.1,ihb hp.2]
 |arr n t ih=>intro hp; exact ih hp
 |_=>intro hp; first|rfl|cases hp
theorem mh:∀ {t:Ty},t.plain=true→t.known=true:=by
 intro t
 induction t with
 |pair a b iha ihb=>intro hp; simp only [Ty.plain,Bool.and_eq_true] at hp; simp [Ty.known,iha hp.1,ihb hp.2]
 |arr n t ih=>intro hp; exact ih hp
 |_=>intro hp; first|rfl|cases hp
theorem rM {t:Ty} (h:t.plain=true):t.bL=false:=by cases t<;>first|rfl|cases h
theorem wH (hV:View sv st) (h:Inv C st tm w I tk) {s:Nat} {t:Ty} {pa:Path} {v x:Value} {d:DV} {ps:List Pm} {T:TypeId} (hT:fO C.P T t) (hv:mU tk s t pa v) (hdr:aA w I tk d.1 d.2 x) (hdt:d.1.bL=false)
  (hs:zf sv s t pa d=some ps) (hwr:Mq sv (.pb s t pa)=true):∃ w',(Instr.storeAt T v x).run C.P w= .ok () w'∧Inv C (aN ps st) tm w' I tk:=by
 unfold zf at hs
 split at hs
 ·rename_i b0 hb0
  cases hc:(decide (d.1.frz=t)&&d.1.known) with
  |false=>rw [hc] at hs; cases hs
  |true=>
   rw [hc] at hs
   simp only [cond_true] at hs
   simp only [Bool.and_eq_true,decide_eq_true_eq] at hc
   obtain ⟨hft,hk⟩:=hc
   obtain ⟨z,hz,rfl⟩:=Option.map_eq_some_iff.1 hs
   obtain ⟨k,b,off,h1,h2,h3,rfl⟩:=hv
   have hbst:=hV.box s b0 hb0
   obtain ⟨k',h6,h7⟩:=h.boxes s b0 hbst
   rw [h1] at h6; cases h6
   have hc:=hdr.cells hk
   cases hp:b0.1.fD with
   |false=>
    have hn:=h7.np hp
    rw [Tk.oL hn] at h3
    obtain ⟨q,h4,h5,rfl⟩:=Tk.ol hn h2
    have hnI:=h.tokI s k b h1 (.inl h4)
    obtain ⟨hnew,cs,hblk,hroom⟩:=QM h7 h4 hz h3 (by rw [hft]; exact h5) hdt hk hc hnI
    obtain ⟨hst,_⟩:=wD (P:=C.P) (T:=T) (t:=d.1) (by rw [hft]; exact hT) hk hdr hblk hroom
    refine ⟨w.setCells b (k.off+q) x.cells.toList,?_,?_⟩
    ·simp only [Instr.storeAt,Instr.sureAddr,Sem.run_bind,Sem.run_pure,Result.andThen_ok,hst]
    ·exact h.qY hbst h1 (.inl h4) (Wrote.cells _ _ _ _) hnew
   |true=>
    obtain ⟨t1,l⟩:=b0
    cases t1<;>first|cases hp; done|skip
    rename_i t0
    have hfl:∀ k r,pa= .ix k::r→(List.getD l k (0,[])).1=0:=by
     rintro k r rfl
     simp only [Mq,hb0] at hwr
     exact Nat.eq_of_beq_eq_true hwr
    obtain ⟨i,r,f1,f2⟩:=Nh h7 h2
    have hnI:=h.tokI s k b h1 (Tk.uS f1 f2)
    obtain ⟨hnew,hown,e,cs,hblk,hroom⟩:=Ng h7 hz (by rw [hft]; exact h2) h3 hfl hdt hk hc hnI
    obtain ⟨hst,_⟩:=wD (P:=C.P) (T:=T) (t:=d.1) (by rw [hft]; exact hT) hk hdr hblk hroom
    refine ⟨w.setCells b off x.cells.toList,?_,?_⟩
    ·simp only [Instr.storeAt,Instr.sureAddr,Sem.run_bind,Sem.run_pure,Result.andThen_ok,hst]
    ·exact h.qY hbst h1 hown (Wrote.cells _ _ _ _) hnew
 ·cases hs
theorem PL {st:St} {s:Nat} {t:Ty} {pa:Path} (h:DW st s=false):Mq st (.pb s t pa)=true:=by
 unfold Mq
 split
 ·rename_i p _ k _ e
  cases e
  split
  ·rename_i u l hb
   unfold DW at h
   rw [hb] at h; cases h
  ·rfl
 ·rfl
theorem xK.pt {fs:List Pm} (hF:xK C sv st tm w I tk fs I' tk') {s:Nat} {t:Ty} {pa:Path} {v:Value} (hv:mU tk s t pa v) (hs:s∉fs.flatMap Pm.fs):mU tk' s t pa v:=by
 obtain ⟨k,b,off,h1,h2⟩:=hv
 exact ⟨k,b,off,(hF.tok s hs).trans h1,h2⟩
theorem Nq {T:TypeId} {a x:Operand} (hE:eD C.P E) (hV:View sv st) (h:Inv C st tm w I tk) (ho:o.op= .store T a x) (hf:opP E o sv=some (true,e)):
  aV C o ds (e.run o.dst st) tm w:=by
 have ha:=fe (ds:=ds) hV h a
 have hx:=fe (ds:=ds) hV h x
 simp only [opP,ho] at hf
 split at hf
 ·rename_i hod
  split at hf
  ·rename_i ps hs
   cases hc:Rp E T (ev sv a) with
   |false=>rw [hc] at hf; cases hf
   |true=>
    rw [hc] at hf
    simp only [cond_true,Option.some.injEq,Prod.mk.injEq] at hf
    obtain ⟨hwr,rfl⟩:=hf
    have fin:∀ {w':World} {I':Nat→Prop} {tk':aU},(Instr.storeAt T (Act.eval ⟨tm,ds⟩ a) (Act.eval ⟨tm,ds⟩ x)).run C.P w= .ok () w'→Inv C (aN ps st) tm w' I' tk'→aV C o ds (Ef.run o.dst ⟨ps,none⟩ st) tm w:=by
     intro w' I' tk' hr hi
     refine ⟨undef,w',I',tk',.inr ⟨?_,rfl⟩,?_⟩
     ·simp only [execOp,ho]
      rw [Sem.run_bind,hr]; rfl
     ·rw [hod]; exact hi
    unfold MG at hs
    split at hs
    ·rename_i s t pa ea
     rw [ea] at ha hc hwr
     have hA:=vT hE (t:=t) hc
     split at hs
     ·rename_i ps' h1
      cases hs
      obtain ⟨d,h2,h3⟩:=Option.bind_eq_some_iff.1 h1
      obtain ⟨g1,g2⟩:=sD hx h2
      obtain ⟨w',h4,h5⟩:=wH hV h hA ha g2 g1 h3 hwr
      exact fin h4 h5
     ·split at hs
      ·rename_i fs d hdf
       cases hn0:((fs.flatMap Pm.fs).any (Nat.beq s)||DW (aN fs sv) s) with
       |true=>rw [hn0] at hs; cases hs
       |false=>
       rw [hn0] at hs
       simp only [cond_false] at hs
       simp only [Bool.or_eq_false_iff] at hn0
       obtain ⟨hn,hnp⟩:=hn0
       obtain ⟨ps',h3,rfl⟩:=Option.map_eq_some_iff.1 hs
       obtain ⟨I',tk',hF,hp,hr⟩:=uw hV h hx hdf
       have hns:s∉fs.flatMap Pm.fs:=fun hm=>by
        have:=List.any_eq_false.1 hn s hm
        simp at this
       obtain ⟨w',h4,h5⟩:=wH hF.view hF.inv hA (hF.pt ha hns) hr (rM hp) h3 (PL hnp)
       exact fin h4 (by rw [dD]; exact h5:Inv C (aN (fs++ps') st) tm w' I' tk')
      ·cases hs
    ·cases hs
  ·cases hf
 ·cases hf
end Go.Own
set_option linter.unusedVariables false
namespace Go.Own
variable {C:Cx} {P:Program} {E:Env} {w w' w2:World} {I I':Nat→Prop} {st sv:St} {tm:Array Value} {tk tk':aU} {ds:List Deferred} {o:Oper} {e:Ef}
structure Tk.Ext (q q':Tk):Prop where
 blk:q'.blk=q.blk
 off:q'.off=q.off
 ad:q'.ad=q.ad
 len:q'.len=q.len
 cap:q'.cap=q.cap
 ty:q'.ty=q.ty
 tid:q'.tid=q.tid
 rows:∀ (i:Nat) (r:RTk),q.rows[i]?=some r→q'.rows[i]?=some r
theorem Tk.Ext.refl (q:Tk):q.Ext q:=⟨rfl,rfl,rfl,rfl,rfl,rfl,rfl,fun _ _ h=>h⟩
theorem Tk.Ext.hdr {q q':Tk} (h:q.Ext q'):q'.hdr=q.hdr:=by unfold Tk.hdr; rw [h.ad,h.len,h.cap]
theorem Tk.Ext.at {q q':Tk} (h:q.Ext q') {pa:Path} {b off:Nat} {t:Ty} (ha:q.at pa=some (b,off,t)):q'.at pa=some (b,off,t):=by
 cases hn:q.ty.fD with
 |false=>
  rw [Tk.Bp hn] at ha
  rw [Tk.Bp (by rw [h.ty]; exact hn)]
  unfold Tk.at1 at*
  rw [h.blk,h.ty,h.off]; exact ha
 |true=>
  unfold Tk.at at*
  rw [h.ty]
  cases ht:q.ty<;>rw [ht] at hn<;>first|cases hn; done|skip
  rw [ht] at ha
  simp only at ha ⊢
  cases pa with
  |nil=>cases ha
  |cons s pa=>
   cases s<;>simp only [Tk.at2,reduceCtorEq] at ha ⊢
   rename_i i
   cases hr:q.rows[i]? with
   |none=>rw [hr] at ha; cases ha
   |some r=>rw [h.rows i r hr]; rw [hr] at ha; exact ha
theorem Tk.Ext.pin {q q':Tk} (h:q.Ext q') {pa:Path} (ha:q.pin pa):q'.pin pa:=by
 cases hn:q.ty.fD with
 |false=>
  rw [Tk.oL hn] at ha
  rw [Tk.oL (by rw [h.ty]; exact hn),h.len,h.ty]
  exact ha
 |true=>
  unfold Tk.pin at*
  rw [h.ty]
  cases ht:q.ty<;>rw [ht] at hn<;>first|cases hn; done|skip
  rw [ht] at ha
  simp only at ha ⊢
  cases pa with
  |nil=>exact ha
  |cons s pa=>
   cases s<;>first|exact ha|skip
   obtain ⟨r,h1,h2⟩:=ha
   exact ⟨r,h.rows _ r h1,h2⟩
def aU.grow (tk tk':aU):Prop:=∀ s q,tk s=some q→∃ q',tk' s=some q'∧q.Ext q'
theorem mU.grown (g:tk.grow tk') {s:Nat} {t:Ty} {pa:Path} {v:Value} (h:mU tk s t pa v):mU tk' s t pa v:=by
 obtain ⟨k,b,off,h1,h2,h3,h4⟩:=h
 obtain ⟨k',g1,g2⟩:=g s k h1
 exact ⟨k',b,off,g1,g2.at h2,g2.pin h3,h4⟩
theorem ai.grown (g:tk.grow tk'):∀ {t:Ty} {x:t.den} {cs:List Value},ai w I tk t x cs→ai w I tk' t x cs:=by
 intro t
 induction t with
 |int k=>intro x cs h; exact h
 |bool=>intro x cs h; exact h
 |str=>intro x cs h; exact h
 |flt=>intro x cs h; exact h
 |unit=>intro x cs h; exact h
 |eos u=>intro x cs h; exact h
 |pair a b iha ihb=>
  intro x cs h
  obtain ⟨c1,c2,e,h1,h2⟩:=h
  exact ⟨c1,c2,e,iha h1,ihb h2⟩
 |arr n t ih=>
  intro x cs h
  obtain ⟨h1,h2,h3⟩:=h
  exact ⟨h1,h2,fun i y hy=>ih (h3 i y hy)⟩
 |sl t ih=>intro x cs h; exact h.H8
 |ref t ih=>intro x cs h; exact h.Dv
 |nif=>intro x cs h; exact h
 |slf=>intro x cs h; exact h
 |nsl t=>intro x cs h; exact h
 |sf s t pa=>
  intro x cs h
  rcases h with h|⟨h0,v,h1,h2⟩
  ·exact .inl h
  ·exact .inr ⟨h0,v,h1,h2.grown g⟩
 |vw s t=>
  intro x cs h
  obtain ⟨k,h1,h2,rfl⟩:=h
  obtain ⟨k',g1,g2⟩:=g s k h1
  exact ⟨k',g1,by rw [g2.ty]; exact h2,by rw [g2.hdr]⟩
 |pt s t pa=>intro x cs h; obtain ⟨v,h1,h2⟩:=h; exact ⟨v,h1,h2.grown g⟩
 |mp s k v=>
  intro x cs h
  obtain ⟨q,b,h1,h2,h3,rfl⟩:=h
  obtain ⟨q',g1,g2⟩:=g s q h1
  exact ⟨q',b,g1,by rw [g2.ty]; exact h2,by rw [g2.blk]; exact h3,rfl⟩
 |rid p t=>
  intro x cs h
  obtain ⟨q,r,h1,h2,h3,rfl⟩:=h
  obtain ⟨q',g1,g2⟩:=g p q h1
  exact ⟨q',r,g1,by rw [g2.ty]; exact h2,g2.rows _ _ h3,rfl⟩
 |junk t=>intro x cs h; exact h
 |dyn t=>intro x cs h; exact h
 |map k v=>intro x cs h; exact h
 |pool t=>intro x cs h; exact h
theorem aA.grown (g:tk.grow tk') {t:Ty} {x:t.den} {v:Value} (h:aA w I tk t x v):aA w I tk' t x v:=by
 unfold aA at*
 split
 ·rename_i ht
  simp only [ht,if_true] at h
  obtain ⟨cs,e,h⟩:=h
  exact ⟨cs,e,h.grown g⟩
 ·rename_i ht
  simp only [ht] at h
  exact ai.grown g h
theorem jc.grown (g:tk.grow tk') {b o cap:Nat} {e:TypeId} {t:Ty} {l:List t.den} (h:jc w I tk b e o cap t l):jc w I tk' b e o cap t l:=by
 obtain ⟨cs,h1,h2,h3⟩:=h
 refine ⟨cs,h1,h2,fun i x hx=> ?_⟩
 obtain ⟨c,hc,hv⟩:=h3 i x hx
 exact ⟨c,hc.grown g,hv⟩
theorem kK.grown (g:tk.grow tk') {r:RTk} {t:Ty} {x:List t.den} (h:kK w I tk r t x):kK w I tk' r t x:=by
 obtain ⟨h1,h2,h3⟩:=h
 refine ⟨h1,h2,h3.imp id ?_⟩
 rintro ⟨b,e1,e2,e3⟩
 exact ⟨b,e1,e2,e3.grown g⟩
theorem aI.grown (g:tk.grow tk') {q:Tk} {d:DV} (h:aI w I tk q d):aI w I tk' q d:=by
 obtain ⟨t,x⟩:=d
 cases ht:t.bL with
 |true=>
  cases t<;>first|cases ht; done|skip
  ·obtain ⟨h1,hp,h2,h3,h4,h5⟩:=h
   refine ⟨h1,hp,h2,h3,h4,h5.imp id ?_⟩
   rintro ⟨b,e1,e2,e3⟩
   exact ⟨b,e1,e2,e3.grown g⟩
  ·obtain ⟨h1,b,h2,es,clock,h3,h4,h5,h6,h7,h8⟩:=h
   exact ⟨h1,b,h2,es,clock,h3,h4,h5,h6,h7,fun i e p he hp=>⟨(h8 i e p he hp).1.grown g,(h8 i e p he hp).2.grown g⟩⟩
  ·obtain ⟨h1,h2,h3,h4,h5,h6⟩:=h
   exact ⟨h1,h2,h3,h4,h5,fun k r fx hk hx=>(h6 k r fx hk hx).grown g⟩
 |false=>
  obtain ⟨h1,h2,b,cs,h3,h4,h5⟩:=(aI.str ht).1 h
  exact (aI.str ht).2 ⟨h1,h2,b,cs,h3,h4,h5.grown g⟩
theorem ES.ext {q q':Tk} (g:q.Ext q') {t:Ty} {pa:Path} {lo n:Nat} {v:Value} (h:ES q t pa lo n v):ES q' t pa lo n v:=by
 rcases h with ⟨h1,h2,h3,ad',h4,h5,h6⟩|⟨b,off,m,h1,h2,h3,h4⟩
 ·exact .inl ⟨h1,by rw [g.ty]; exact h2,by rw [g.len,g.cap]; exact h3,ad',by rw [g.cap]; exact h4,by rw [g.cap,g.ad]; exact h5,by rw [g.ad]; exact h6⟩
 ·exact .inr ⟨b,off,m,g.at h1,g.pin h2,h3,h4⟩
theorem dB.grown (g:tk.grow tk') {s:SV} {v:Value} (h:dB w I tk s v):dB w I tk' s v:=by
 cases s with
 |p d=>exact ⟨h.1,h.2.grown g⟩
 |sd d=>exact ⟨h.1,h.2.grown g⟩
 |va s t=>
  obtain ⟨q,h1,h2,h3⟩:=h
  obtain ⟨q',g1,g2⟩:=g s q h1
  exact ⟨q',g1,by rw [g2.ty]; exact h2,by rw [g2.hdr]; exact h3⟩
 |vs s t pa lo n=>
  obtain ⟨q,h1,h2⟩:=h
  obtain ⟨q',g1,g2⟩:=g s q h1
  exact ⟨q',g1,h2.ext g2⟩
 |pb s t pa=>exact mU.grown g h
 |mp s k v=>
  obtain ⟨q,b,h1,h2,h3,h4⟩:=h
  obtain ⟨q',g1,g2⟩:=g s q h1
  exact ⟨q',b,g1,by rw [g2.ty]; exact h2,by rw [g2.blk]; exact h3,h4⟩
 |ud s t=>
  obtain ⟨q,h1,h2,p,h3,h4,h5⟩:=h
  obtain ⟨q',g1,g2⟩:=g s q h1
  exact ⟨q',g1,by rw [g2.ty]; exact h2,p,h3,by rw [g2.len,g2.ad]; exact h4,by rw [g2.ad]; exact h5⟩
 |_=>exact h
theorem bf.grown (g:tk.grow tk') {s:SV} {v:Value} (h:bf w I tk s v):bf w I tk' s v:=by
 cases hv:s.jL with
 |true=>exact bf.of1 (((bf.one hv).1 h).grown g)
 |false=>
  cases s with
  |clo f caps=>obtain ⟨vs,e,hl,hc⟩:=h; exact ⟨vs,e,hl,fun j c x h1 h2=>(hc j c x h1 h2).grown g⟩
  |tup l=>obtain ⟨vs,e,hl,hc⟩:=h; exact ⟨vs,e,hl,fun j c x h1 h2=>(hc j c x h1 h2).grown g⟩
  |_=>cases hv
theorem EU {p:Nat} {q q':Tk} (hq:tk p=some q) (g:q.Ext q'):tk.grow (tk.upd p q'):=by
 intro s k hk
 by_cases e:s=p
 ·subst e
  rw [hq] at hk; cases hk
  exact ⟨q',upd_same _ _ _,g⟩
 ·exact ⟨k,(ko _ _ _ e).trans hk,Tk.Ext.refl k⟩
theorem Inv.Qy (h:Inv C st tm w I tk) {p:Nat} {d d':DV} {q q':Tk} (hp:st.box p=some d) (hq:tk p=some q) (hn:∀ j,p≠site j) (g:q.Ext q') (hd:aI w I (tk.upd p q') q' d')
  (hb:∀ b,q'.own b→q.own b∨((C.w0.heap.size≤b∨∃ (j:Nat) (q':Tk),C.xs[j]?=some q'∧q'.own b)∧b<w.heap.size∧¬ I b∧∀ s q2,s≠p→tk s=some q2→¬ q2.own b)) (hty:∀ b,q'.own b→oG C.P q'):
  Inv C (st.gI p d') tm w I (tk.upd p q'):=by
 have gr:=EU hq g
 exact {
  len:=h.len
  small:=h.small
  srt:=nD h.srt p d'
  slots:=fun i hi=>(h.slots i hi).grown gr
  boxes:=fun r e hr=>by
   rw [iE] at hr
   by_cases hrs:r=p
   ·rw [if_pos hrs] at hr
    cases hr
    exact ⟨q',hrs ▸ upd_same tk p q',hd⟩
   ·rw [if_neg hrs] at hr
    obtain ⟨k,h1,h2⟩:=h.boxes r e hr
    exact ⟨k,(ko _ _ _ hrs).trans h1,h2.grown gr⟩
  inj:=fun a b qa qb k h1 h2 h3 h4=>by
   have one:∀ {c:Nat} {qc:Tk},tk.upd p q' c=some qc→qc.own k→(∃ qc',tk c=some qc'∧qc'.own k)∨(c=p∧∀ s q2,s≠p→tk s=some q2→¬ q2.own k):=by
    intro c qc hc hk
    by_cases e:c=p
    ·subst e
     rw [upd_same] at hc; cases hc
     rcases hb k hk with h5|⟨_,_,_,h5⟩
     ·exact .inl ⟨q,hq,h5⟩
     ·exact .inr ⟨rfl,h5⟩
    ·exact .inl ⟨qc,(ko _ _ _ e).symm.trans hc,hk⟩
   rcases one h1 h3 with ⟨qa',a1,a2⟩|⟨rfl,a1⟩<;>rcases one h2 h4 with ⟨qb',b1,b2⟩|⟨rfl,b1⟩
   ·exact h.inj a b qa' qb' k a1 b1 a2 b2
   ·by_cases e:a=b
    ·exact e
    ·exact absurd a2 (b1 a qa' e a1)
   ·by_cases e:b=a
    ·exact e.symm
    ·exact absurd b2 (a1 b qb' e b1)
   ·rfl
  tokLt:=fun a qa b h1 h2=>by
   unfold aU.upd at h1
   split at h1
   ·cases h1
    rcases hb b h2 with h3|h3
    ·exact h.tokLt p q b hq h3
    ·exact h3.2.1
   ·exact h.tokLt a qa b h1 h2
  tokI:=fun a qa b h1 h2=>by
   unfold aU.upd at h1
   split at h1
   ·cases h1
    rcases hb b h2 with h3|h3
    ·exact h.tokI p q b hq h3
    ·exact h3.2.2.1
   ·exact h.tokI a qa b h1 h2
  tys:=fun a qa b h1 h2=>by
   unfold aU.upd at h1
   split at h1
   ·cases h1; exact hty b h2
   ·exact h.tys a qa b h1 h2
  ilt:=h.ilt
  fresh:=fun a qa b h1 h2=>by
   unfold aU.upd at h1
   split at h1
   ·cases h1
    rcases hb b h2 with h3|h3
    ·exact h.fresh p q b hq h3
    ·exact h3.1
   ·exact h.fresh a qa b h1 h2
  ext:=fun j q2 hj e he=>by
   have hne:site j≠p:=fun e=>hn j e.symm
   rw [iE,if_neg hne] at he
   exact (ko _ _ _ hne).trans (h.ext j q2 hj e he)
  keep:=h.keep
  size:=h.size
  os:=h.os
  output:=h.output
  tape:=h.tape
  sub:=h.sub
  new:=h.new}
theorem Inv.giveUp (h:Inv C st tm w I tk) {g:Nat} {q:Tk} (hq:tk g=some q):Inv C (aN [.kill g,.del g] st) tm w I (tk.drop g)∧∀ b,q.own b→(∀ s q',tk.drop g s=some q'→¬ q'.own b)∧¬ I b∧(C.w0.heap.size≤b∨∃ (j:Nat) (q':Tk),C.xs[j]?=some q'∧q'.own b)∧b<w.heap.size:=by
 have h1:=((h.kill g).Ot g).QG (g:=g) (pE st g|>fun hf=>⟨hf.1,fun r d hr hb=>by
  rw [og,if_neg hr] at hb
  exact hf.2 r d hr hb⟩) (by rw [og,if_pos rfl])
 refine ⟨h1,fun b hb=>⟨fun s q' hs hb'=> ?_,h.tokI g q b hq hb,h.fresh g q b hq hb,h.tokLt g q b hq hb⟩⟩
 obtain ⟨hne,hs⟩:=nP hs
 exact hne (h.inj s g q' q b hs hq hb' hb)
theorem Inv.zx (h:Inv C st tm w I tk) {p:Nat} {u:Ty} {l l1:List (Nat×List u.den)} {q:Tk} (hp:st.box p=some ⟨.pool u,l⟩) (hq:tk p=some q) (hn:∀ j,p≠site j) {r0:RTk} {f0:Nat} {x:List u.den} (hr:kK w I tk r0 u x)
  (hb0:∀ b,r0.blk=some b→(q.own b∨((C.w0.heap.size≤b∨∃ (j:Nat) (q':Tk),C.xs[j]?=some q'∧q'.own b)∧b<w.heap.size∧¬ I b∧∀ s q2,s≠p→tk s=some q2→¬ q2.own b))∧fO C.P r0.tid u)
  (hl1:l1.length=l.length) (hdat:∀ (k:Nat) (fx:Nat×List u.den),l1[k]?=some fx→∃ f,l[k]?=some (f,fx.2)) (hap:Apart u (q.rows++ [r0]) (l1++ [(f0,x)])):
  ∃ tk',Inv C (st.gI p ⟨.pool u,l1++ [(f0,x)]⟩) tm w I tk'∧ai w I tk' (.rid p u) l.length [r0.hdr]:=by
 obtain ⟨q2,hq2,hd⟩:=h.boxes p _ hp
 rw [hq] at hq2; cases hq2
 obtain ⟨g1,g2,g3,g4,g5,g6⟩:=hd
 let q':Tk:= {q with rows:=q.rows++ [r0]}
 have ext:q.Ext q':=⟨rfl,rfl,rfl,rfl,rfl,rfl,rfl,fun i r hr=>by
  show (q.rows++ [r0])[i]?=some r
  rw [List.getElem?_append_left (List.getElem?_eq_some_iff.1 hr).1]; exact hr⟩
 have own':∀ b,q'.own b→q.own b∨r0.blk=some b:=by
  rintro b (hb|⟨r,hr,hb⟩)
  ·exact .inl (.inl hb)
  ·rcases List.mem_append.1 hr with hr|hr
   ·exact .inl (.inr ⟨r,hr,hb⟩)
   ·rw [List.mem_singleton.1 hr] at hb; exact .inr hb
 have gr:=EU hq ext
 refine ⟨_,h.Qy hp hq hn ext (q':=q') ⟨g1,g2,g3,by simp [q',g4,hl1],hap,?_⟩ (fun b hb=> ?_) ?_,?_⟩
 ·intro k r fx hr' hx
  have hr2:(q.rows++ [r0])[k]?=some r:=hr'
  rcases Nat.lt_or_ge k l.length with hk|hk
  ·rw [List.getElem?_append_left (by omega)] at hr2 hx
   obtain ⟨f,hf⟩:=hdat k fx hx
   exact (g6 k r _ hr2 hf).grown gr
  ·rw [List.getElem?_append_right (by omega)] at hr2 hx
   have e:k - q.rows.length=0:=by have:=(List.getElem?_eq_some_iff.1 hr2).1; simp at this; omega
   have e2:k - l1.length=0:=by omega
   rw [e] at hr2; rw [e2] at hx
   simp only [List.getElem?_cons_zero,Option.some.injEq] at hr2 hx
   subst hr2; subst hx
   exact hr.grown gr
 ·rcases own' b hb with hb|hb
  ·exact .inl hb
  ·exact (hb0 b hb).1
 ·intro b hb
  show oG C.P q'
  unfold oG
  rw [show q'.ty= .pool u from g1]
  intro r hr hne
  rcases List.mem_append.1 hr with hr|hr
  ·cases hrb:r.blk with
   |none=>exact absurd hrb hne
   |some b2=>
    have:=h.tys p q b2 hq (.inr ⟨r,hr,hrb⟩)
    unfold oG at this
    rw [g1] at this
    exact this r hr hne
  ·rw [List.mem_singleton.1 hr] at hne ⊢
   cases hrb:r0.blk with
   |none=>exact absurd hrb hne
   |some b2=>exact (hb0 b2 hrb).2
 ·exact ⟨q',r0,upd_same _ _ _,g1,by show (q.rows++ [r0])[l.length]?=some r0; rw [← g4,List.getElem?_append_right (Nat.le_refl _)]; simp,rfl⟩
theorem Apart.snoc {u:Ty} {rows:List RTk} {l:List (Nat×List u.den)} (hl:rows.length=l.length) (h:Apart u rows l) {r0:RTk} {f0:Nat} {x:List u.den} (h3:f0=3→r0.blk=none) (hno:∀ b r,r0.blk=some b→r∈rows→r.blk≠some b):Apart u (rows++ [r0]) (l++ [(f0,x)]):=by
 intro k r f y hr hx
 rcases Nat.lt_or_ge k l.length with hk|hk
 ·rw [List.getElem?_append_left (by omega)] at hr hx
  obtain ⟨a1,a2⟩:=h k r f y hr hx
  refine ⟨a1,fun k' r' b hr' hne hb hb'=> ?_⟩
  rcases Nat.lt_or_ge k' l.length with hk'|hk'
  ·rw [List.getElem?_append_left (by omega)] at hr'
   rw [List.getD_eq_getElem?_getD,List.getElem?_append_left hk',← List.getD_eq_getElem?_getD]
   exact a2 k' r' b hr' hne hb hb'
  ·rw [List.getElem?_append_right (by omega)] at hr'
   have e:k' - rows.length=0:=by have:=(List.getElem?_eq_some_iff.1 hr').1; simp at this; omega
   rw [e] at hr'
   simp only [List.getElem?_cons_zero,Option.some.injEq] at hr'
   subst hr'
   exact absurd hb (hno b r hb' (List.mem_of_getElem? hr))
 ·rw [List.getElem?_append_right (by omega)] at hr hx
  have e:k - rows.length=0:=by have:=(List.getElem?_eq_some_iff.1 hr).1; simp at this; omega
  have e2:k - l.length=0:=by omega
  rw [e] at hr; rw [e2] at hx
  simp only [List.getElem?_cons_zero,Option.some.injEq] at hr hx
  subst hr
  simp only [Prod.mk.injEq] at hx
  obtain ⟨rfl,rfl⟩:=hx
  refine ⟨h3,fun k' r' b hr' hne hb hb'=> ?_⟩
  rcases Nat.lt_or_ge k' l.length with hk'|hk'
  ·rw [List.getElem?_append_left (by omega)] at hr'
   exact absurd hb' (hno b r' hb (List.mem_of_getElem? hr'))
  ·have:k'<(rows++ [r0]).length:=(List.getElem?_eq_some_iff.1 hr').1
   simp at this
   exact absurd (by omega) hne
theorem Inv.OW (h:Inv C st tm w I tk) {p:Nat} {u:Ty} {l:List (Nat×List u.den)} (hp:st.box p=some ⟨.pool u,l⟩) (hn:∀ j,p≠site j) {f0:Nat} {r0:RTk} {x:List u.den} (hr:kK w I tk r0 u x) (h3:f0=3→r0.blk=none)
  (hb0:∀ b,r0.blk=some b→(C.w0.heap.size≤b∨∃ (j:Nat) (q':Tk),C.xs[j]?=some q'∧q'.own b)∧b<w.heap.size∧¬ I b∧(∀ s q2,tk s=some q2→¬ q2.own b)∧fO C.P r0.tid u):
  ∃ tk',Inv C (st.gI p ⟨.pool u,l++ [(f0,x)]⟩) tm w I tk'∧ai w I tk' (.rid p u) l.length [r0.hdr]:=by
 obtain ⟨q,hq,hd⟩:=h.boxes p _ hp
 refine h.zx hp hq hn hr (fun b hb=> ?_) rfl (fun k fx hk=>⟨fx.1,hk⟩) (hd.2.2.2.2.1.snoc hd.2.2.2.1 h3 fun b r hb hr hb'=> ?_)
 ·obtain ⟨a1,a2,a3,a4,a5⟩:=hb0 b hb
  exact ⟨.inr ⟨a1,a2,a3,fun s q2 _ hs=>a4 s q2 hs⟩,a5⟩
 ·exact (hb0 b hb).2.2.2.1 p q hq (.inr ⟨r,hr,hb'⟩)
theorem CU (s:Nat) (d d':DV):∀ l:List (Nat×DV),sM s d (sM s d' l)=sM s d l
 | []=>by simp [sM]
 |(i,a)::l=>by
  simp only [sM]
  cases h1:Nat.beq i s
  ·simp only [cond_false]
   cases h2:Nat.blt s i
   ·simp only [cond_false,sM,h1,h2,CU s d d' l]
   ·simp [sM]
  ·simp [sM]
theorem BJ (st:St) (s:Nat) (d d':DV):(st.gI s d').gI s d=st.gI s d:=by
 unfold St.gI; simp only [CU]
theorem Fz (hV:View sv st) (h:Inv C st tm w I tk) {p:Nat} {u:Ty} {s:SV} {ps:List Pm} {k:Nat} (hf:FB sv p u s=some (ps,k)):u.plain=true:=by
 unfold FB at hf
 split at hf
 ·split at hf
  ·rename_i t x u' l hbd hbp
   split at hf
   ·cases hc:(decide (u=u')&&Nat.blt p 1000000&&Nat.blt _ 1000000&& !Nat.beq _ p) with
    |false=>rw [hc] at hf; cases hf
    |true=>
     simp only [Bool.and_eq_true,decide_eq_true_eq] at hc
     obtain ⟨⟨⟨rfl,_⟩,_⟩,_⟩:=hc
     obtain ⟨qp,hqp,hbrp⟩:=h.boxes p _ (hV.box p _ hbp)
     exact hbrp.2.1
   ·cases hf
  ·cases hf
 ·cases hf
theorem Fy (hV:View sv st) (h:Inv C st tm w I tk) {p:Nat} {u:Ty} {s:SV} {v:Value} {ps:List Pm} {k:Nat} (hv:bf w I tk s v) (hf:FB sv p u s=some (ps,k)):
  ∃ tk',Inv C (aN ps st) tm w I tk'∧v.cells= #[v]∧ai w I tk' (.rid p u) k [v]:=by
 unfold FB at hf
 split at hf
 ·rename_i d t0
  split at hf
  ·rename_i t x u' l hbd hbp
   split at hf
   ·rename_i e
    subst e
    cases hc:(decide (u=t)&&Nat.blt p 1000000&&Nat.blt d 1000000&& !Nat.beq d p) with
    |false=>rw [hc] at hf; cases hf
    |true=>
     rw [hc] at hf
     simp only [cond_true,Option.some.injEq,Prod.mk.injEq] at hf
     obtain ⟨rfl,rfl⟩:=hf
     simp only [Bool.and_eq_true,decide_eq_true_eq,Bool.not_eq_true'] at hc
     obtain ⟨⟨⟨rfl,hp1⟩,hd1⟩,hdp⟩:=hc
     have hdp':d≠p:=eP.1 hdp
     obtain ⟨qd,hqd,hty,rfl⟩:=hv
     obtain ⟨q',hq',hbr⟩:=h.boxes d _ (hV.box d _ hbd)
     rw [hqd] at hq'; cases hq'
     obtain ⟨qp,hqp,hbrp⟩:=h.boxes p _ (hV.box p _ hbp)
     have hpl:u.plain=true:=hbrp.2.1
     obtain ⟨b1,_,b3,b4,b5,b6⟩:=hbr
     obtain ⟨h1,h2⟩:=h.giveUp hqd
     have hbp':(aN [.kill d,.del d] st).box p=some ⟨.pool u,l⟩:=by
      show (⟨(st.kill d).sl,Be d (st.kill d).bx⟩:St).box p=_
      rw [og,if_neg (fun e=>hdp' e.symm),ng,hV.box p _ hbp]
      rfl
     have hty':=h.tys d qd
     let r0:RTk:=⟨qd.blk,qd.off,qd.ad,qd.len,qd.cap,qd.tid⟩
     obtain ⟨tk',h3,h4⟩:=h1.OW hbp' (fun j e=>by rw [e] at hp1; exact absurd (Nat.le_of_ble_eq_true hp1) (by unfold site; omega)) (r0:=r0) (f0:=0) (x:=x.2) ⟨b3,b4,b6.imp id fun ⟨b,e1,e2,e3⟩=>⟨b,e1,e2,e3.plain hpl⟩⟩ (fun h=>by cases h) (fun b hb=>by
      have hb':qd.blk=some b:=hb
      obtain ⟨a1,a2,a3,a4⟩:=h2 b (.inl hb')
      refine ⟨a3,a4,a2,a1,?_⟩
      have:=hty' b hqd (.inl hb')
      unfold oG at this
      rw [b1] at this
      have e:u.frz=u:=Ty.eZ hpl
      simp only [e] at this
      exact this)
     exact ⟨tk',h3,rfl,h4⟩
   ·cases hf
  ·cases hf
 ·cases hf
end Go.Own
