/- What is proved: the evaluator of the translated code, and that it is sound, part 9. Conditions: those that each theorem names. -/
import Derived.Test.YtnighkkdmgmcnaaGreatW8
import Derived.Lib.UnsafeStr
set_option linter.unusedVariables false
set_option linter.unusedSimpArgs false
set_option linter.unusedVariables false
namespace Go.Own
variable {C:Cx} {P:Program} {E:Env} {w w' w2:World} {I I':Nat→Prop} {st sv:St} {tm:Array Value} {tk tk':aU} {ds:List Deferred} {o:Oper} {e:Ef}
def lJ (u:TypeDesc):Prop:=(∃ e,u= .slice e)∨u= .string
theorem uG (w:World) {T T2 ty e:TypeId} {u2:TypeDesc} {i:TypeInfo} (ht:P.underlying T=some (.slice e)) (hi:P.info? e=some i) (h2:P.underlying T2=some u2) (hu:lJ u2)
  {ad:Option Addr} {len cap m:Nat} {x:Value} {news:List Value} (hm:(Builtin.lenOf x).run P w= .ok m w) (hn:(Builtin.firstCells i.size m x).run P w= .ok news.toArray w)
  (hroom:len+m≤cap) {w2:World} (hst:∀ a,ad=some a→(storeCells (a.add (len*i.size)) news 0).run P w= .ok () w2) (hno:ad=none→w2=w):
  (Builtin.append_ #[T,T2] ty #[.slice ad len cap,x]).run P w= .ok (.slice ad (len+m) cap) w2:=by
 cases ad with
 |none=>
  have:=hno rfl; subst this
  rcases hu with ⟨e2,rfl⟩|rfl<;>simp [Builtin.append_,run_underlying ht,run_underlying h2,sizeOf,typeInfo,hi,hm,hroom,hn]
 |some a=>
  have hs:=hst a rfl
  rcases hu with ⟨e2,rfl⟩|rfl<;>simp [Builtin.append_,run_underlying ht,run_underlying h2,sizeOf,typeInfo,hi,hm,hroom,hn,hs]
theorem y5 (w:World) {T T2 ty e:TypeId} {u2:TypeDesc} {i:TypeInfo} {z:Value} (ht:P.underlying T=some (.slice e)) (hi:P.info? e=some i) (hz:i.zero=some z) (h2:P.underlying T2=some u2) (hu:lJ u2)
  {ad:Option Addr} {len cap m:Nat} {x:Value} {olds news:List Value} (hm:(Builtin.lenOf x).run P w= .ok m w) (hn:(Builtin.firstCells i.size m x).run P w.drew= .ok news.toArray w.drew)
  (ho:(Builtin.firstCells i.size len (.slice ad len cap)).run P w.drew= .ok olds.toArray w.drew)
  (hg:cap<len+m) (h63:((len+m:Nat):Int)≤9223372036854775807) (hfit:Builtin.nextslicecap (len+m) cap*i.bytes≤281474976710656):
  (Builtin.append_ #[T,T2] ty #[.slice ad len cap,x]).run P w=
   .ok (.slice (some ⟨w.heap.size,0,none⟩) (len+m) (grownCap w (len+m) cap e))
    (w.drew.alloc (.cells (olds.toArray++news.toArray++Builtin.zeroCells z.cells (grownCap w (len+m) cap e - (len+m))) e)):=by
 have hn':¬ (len+m≤cap):=by omega
 have h63':¬ (9223372036854775807<((len:Int)+(m:Int))):=by omega
 have h48':¬ (281474976710656<Builtin.nextslicecap (len+m) cap*i.bytes):=by omega
 rcases hu with ⟨e2,rfl⟩|rfl
 ·simp [Builtin.append_,run_underlying ht,run_underlying h2,sizeOf,typeInfo,zeroValue,hi,hz,hm,hn',h63',h48',Question.forced,hn,ho,newRow,grownCap]
  congr 2
  apply Array.ext'
  simp [List.append_assoc]
 ·simp [Builtin.append_,run_underlying ht,run_underlying h2,sizeOf,typeInfo,zeroValue,hi,hz,hm,hn',h63',h48',Question.forced,hn,ho,newRow,grownCap]
  congr 2
  apply Array.ext'
  simp [List.append_assoc]
def EL (C:Cx) (w:World) (I:Nat→Prop) (tk:aU) (ad:Option Addr) (cap:Nat) (t:Ty) (l:List t.den):Prop:=
 cap=0∨∃ b o e,ad=some ⟨b,o,none⟩∧jc w I tk b e o cap t l∧(∀ s q,tk s=some q→¬ q.own b)∧¬ I b∧(C.w0.heap.size≤b∨∃ (j:Nat) (q':Tk),C.xs[j]?=some q'∧q'.own b)∧b<w.heap.size∧fO C.P e t.frz
theorem Inv.putRow (h:Inv C st tm w I tk) {d:Nat} (hd:d<st.sl.length) {t:Ty} (hp:t.bL=false) (hno:d∉mentions t) {nl:Bool} {l:List t.den} {ad:Option Addr} {cap:Nat} (hn:nl=true↔ad=none) (hc:l.length≤cap) (hr:EL C w I tk ad cap t l):
  ∃ tk',Inv C (aN (kQ d ⟨.dyn t,(nl,l)⟩) st) tm w I tk'∧bf w I tk' (.va d t.frz) (.slice ad l.length cap):=by
 have hs:∀ j,d≠site j:=fun j=>DF h.small hd
 rcases hr with rfl|⟨b,o,e,rfl,h1,h2,h3,h4,h5,h6⟩
 ·have hr:aI w I tk ⟨none,0,ad,l.length,0,.dyn t.frz,0,[]⟩ ⟨.dyn t,(nl,l)⟩:=⟨rfl,hp,rfl,hc,hn,.inl ⟨rfl,rfl⟩⟩
  have no:∀ b,¬ (⟨none,0,ad,l.length,0,.dyn t.frz,0,[]⟩:Tk).own b:=fun b hb=>by rw [Tk.uT rfl] at hb; cases hb
  exact ⟨_,(h.kill d).xW (s:=d) hs (pE st d) hno (fun b hb=>(no b hb).elim) (fun b hb=>(no b hb).elim) hr,_,upd_same _ _ _,rfl,rfl⟩
 ·have hr:aI w I tk ⟨some b,o,some ⟨b,o,none⟩,l.length,cap,.dyn t.frz,e,[]⟩ ⟨.dyn t,(nl,l)⟩:=⟨rfl,hp,rfl,hc,hn,.inr ⟨b,rfl,rfl,h1⟩⟩
  refine ⟨_,(h.kill d).xW (s:=d) hs (pE st d) hno (fun b' hb'=> ?_) (fun _ _=>by show fO C.P e t.frz; exact h6) hr,_,upd_same _ _ _,rfl,rfl⟩
  rw [Tk.uT rfl] at hb'
  cases hb'
  exact ⟨h4,h5,h3,fun s' q' _ hq=>h2 s' q' hq⟩
theorem uR {t:Ty} (hp:t.known=true):∀ {l:List t.den} {f:Nat→Option Value},(∀ i x,l[i]?=some x→∃ c,ai w I tk t x c∧∀ j v,c[j]?=some v→f (i*t.size+j)=some v)→
  ∃ cs:List Value,cs.length=l.length*t.size∧(∀ j v,cs[j]?=some v→f j=some v)∧(∀ v∈cs,v.oneCell'=true)∧
   ∀ i x,l[i]?=some x→∃ c,ai w I tk t x c∧∀ j v,c[j]?=some v→cs[i*t.size+j]?=some v:=by
 intro l
 induction l with
 |nil=>intro f _; exact ⟨[],by simp,by simp,by simp,by simp⟩
 |cons y l ih=>
  intro f h
  obtain ⟨c0,hc0,hv0⟩:=h 0 y rfl
  have hl0:=hc0.length
  obtain ⟨cs,h1,h2,h3,h4⟩:=ih (f:=fun j=>f (t.size+j)) (fun i x hx=>by
   obtain ⟨c,hc,hv⟩:=h (i+1) x (by simpa using hx)
   refine ⟨c,hc,fun j v hj=> ?_⟩
   have:=hv j v hj
   rw [Nat.add_mul,Nat.one_mul] at this
   rw [← this]; congr 1; omega)
  refine ⟨c0++cs,by simp [h1,hl0,Nat.add_mul]; omega,fun j v hj=> ?_,fun v hv=> ?_,fun i x hx=> ?_⟩
  ·rcases Nat.lt_or_ge j c0.length with hlt|hge
   ·rw [List.getElem?_append_left hlt] at hj
    have:=hv0 j v hj
    simpa using this
   ·rw [List.getElem?_append_right hge] at hj
    have:=h2 _ v hj
    rw [← this]; congr 1; omega
  ·rcases List.mem_append.1 hv with h5|h5
   ·exact hc0.ones hp v h5
   ·exact h3 v h5
  ·cases i with
   |zero=>
    simp at hx; subst hx
    refine ⟨c0,hc0,fun j v hj=> ?_⟩
    have:=(List.getElem?_eq_some_iff.1 hj).1
    rw [List.getElem?_append_left (by omega)]
    simpa using hj
   |succ i=>
    obtain ⟨c,hc,hv⟩:=h4 i x (by simpa using hx)
    refine ⟨c,hc,fun j v hj=> ?_⟩
    rw [Nat.add_mul,Nat.one_mul,List.getElem?_append_right (by omega),← hv j v hj]
    congr 1; omega
structure More (P:Program) (w:World) (I:Nat→Prop) (tk:aU) (t:Ty) (ys:List t.den) (x:Value) (news:List Value):Prop where
 len:(Builtin.lenOf x).run P w= .ok ys.length w
 cellsK:∀ k,k≤ys.length→∀ w':World,w'.heap=w.heap→(Builtin.firstCells t.size k x).run P w'= .ok (news.take (k*t.size)).toArray w'
 size:news.length=ys.length*t.size
 one:∀ v∈news,v.oneCell'=true
 rep:∀ i y,ys[i]?=some y→∃ c,ai w I tk t y c∧∀ j v,c[j]?=some v→news[i*t.size+j]?=some v
theorem More.cells {t:Ty} {ys:List t.den} {x:Value} {news:List Value} (h:More P w I tk t ys x news):∀ w':World,w'.heap=w.heap→(Builtin.firstCells t.size ys.length x).run P w'= .ok news.toArray w':=by
 intro w' hw
 have:=h.cellsK ys.length (Nat.le_refl _) w' hw
 rwa [← h.size,List.take_length] at this
theorem cell_of_heap {w w':World} (h:w'.heap=w.heap) (a:Addr):w'.cell? a=w.cell? a:=by unfold World.cell?; rw [h]
theorem Aj {t:Ty} (hp:t.known=true) {ys:List t.den} {ad:Option Addr} {cap:Nat} (h:ys= []∨∃ b o,ad=some ⟨b,o,none⟩∧∀ i x,ys[i]?=some x→∃ c,ai w I tk t x c∧nZ w b (o+i*t.size) c):
  ∃ news,More P w I tk t ys (.slice ad ys.length cap) news:=by
 rcases h with rfl|⟨b,o,rfl,hel⟩
 ·refine ⟨[],⟨by simp [Builtin.lenOf],fun k hk w' _=> ?_,by simp,by simp,by simp⟩⟩
  have hk0:k=0:=by simpa using hk
  subst hk0
  cases ad<;>simp [Builtin.firstCells,loadCells,loadCellsFrom]
 ·obtain ⟨news,h1,h2,h3,h4⟩:=uR hp (w:=w) (I:=I) (tk:=tk) (l:=ys) (f:=fun j=>w.cell? ⟨b,o+j,none⟩) (fun i x hx=>by
   obtain ⟨c,hc,hv⟩:=hel i x hx
   exact ⟨c,hc,fun j v hj=>by rw [← Nat.add_assoc]; exact hv j v hj⟩)
  exact ⟨news,⟨by simp [Builtin.lenOf],fun k hk w' hw'=>run_firstCells_some w' t.size k _ _ _ (news.take (k*t.size)) (by have:=Nat.mul_le_mul_right t.size hk; simp; omega) (fun j v hj=>by rw [addr_add,cell_of_heap hw']; exact h2 j v (by rw [List.getElem?_take] at hj; split at hj; exact hj; cases hj)),h1,h3,h4⟩⟩
theorem vR (hV:View sv st) (h:Inv C st tm w I tk) {T:TypeId} {s:SV} {v:Value} {t:Ty} (hp:t.known=true) {ys:List t.den} (hv:bf w I tk s v) (hs:xX E sv T s=some ⟨t,ys⟩):
  ∃ news,More P w I tk t ys v news:=by
 have viaSeq:Cj sv s=some ⟨t,ys⟩→∃ news,More P w I tk t ys v news:=by
  intro hq
  obtain ⟨ad,cap,rfl,_,hr⟩:=Ci hV h hv hq
  exact Aj hp hr
 unfold xX at hs
 split at hs
 ·rename_i s
  cases hs
  have e:=ow.1 hv
  subst e
  have hlen:(s.data.toList.map fun b=>(b.toNat:Int)).length=s.size:=by simp
  refine ⟨s.data.toList.map fun b=> .int .u8 b.toNat,⟨by rw [hlen]; simp [Builtin.lenOf],fun k hk w' _=> ?_,by simp [Ty.size],by intro v hv; obtain ⟨b,_,rfl⟩:=List.mem_map.1 hv; rfl,fun i y hy=> ?_⟩⟩
  ·simp only [Builtin.firstCells,Sem.run_pure]
   congr 1
   apply Array.ext'
   simp [ByteArray.extract,ByteArray.copySlice,Ty.size]
  ·rw [List.getElem?_map] at hy
   obtain ⟨b,hb,rfl⟩:=Option.map_eq_some_iff.1 hy
   refine ⟨[.int .u8 b.toNat],rfl,fun j v hj=> ?_⟩
   cases j with
   |succ j=>simp at hj
   |zero=>
    simp only [List.getElem?_cons_zero,Option.some.injEq] at hj; subst hj
    simp only [Ty.size,Nat.mul_one,Nat.add_zero]
    rw [List.getElem?_map,hb]; rfl
 ·split at hs
  ·cases hs
   have e:v= .slice none 0 0:=hv
   subst e
   exact Aj (ys:= []) hp (.inl rfl)
  ·cases hs
 ·exact viaSeq hs
theorem uN (z:Array Value) (n k:Nat) (hz:0<z.size) (hk:k<n*z.size):(Builtin.zeroCells z n).toList[k]?=z[k%z.size]?:=by
 have:=Nat.mod_lt k hz
 simp [Builtin.zeroCells,hk,this]
theorem BS {t:Ty} (hp:t.plain=true):∀ v∈t.fJ,v.oneCell'=true:=
 fun v hv=>(dZ (w:=default) (I:=fun _=>False) (tk:=fun _=>none) hp).ones (mh hp) v hv
structure Bw (P:Program) (w:World) (I:Nat→Prop) (tk:aU) (t:Ty) (ys:List t.den) (T T2 ty:TypeId) (x:Value) (news:List Value):Prop where
 room:∀ {e:TypeId} {i:TypeInfo},P.underlying T=some (.slice e)→P.info? e=some i→i.size=t.size→ys.length*i.bytes≤70368744177664→∀ {ad:Option Addr} {len cap:Nat},len+ys.length≤cap→∀ {w2:World},(∀ a,ad=some a→(storeCells (a.add (len*i.size)) news 0).run P w= .ok () w2)→(ad=none→w2=w)→
  (Builtin.append_ #[T,T2] ty #[.slice ad len cap,x]).run P w= .ok (.slice ad (len+ys.length) cap) w2
 grow:∀ {e:TypeId} {i:TypeInfo} {z:Value},P.underlying T=some (.slice e)→P.info? e=some i→i.zero=some z→i.size=t.size→ys.length*i.bytes≤70368744177664→∀ {ad:Option Addr} {len cap:Nat} {olds:List Value},(Builtin.firstCells i.size len (.slice ad len cap)).run P w.drew= .ok olds.toArray w.drew→
  cap<len+ys.length→((len+ys.length:Nat):Int)≤9223372036854775807→Builtin.nextslicecap (len+ys.length) cap*i.bytes≤281474976710656→
  (Builtin.append_ #[T,T2] ty #[.slice ad len cap,x]).run P w= .ok (.slice (some ⟨w.heap.size,0,none⟩) (len+ys.length) (grownCap w (len+ys.length) cap e))
    (w.drew.alloc (.cells (olds.toArray++news.toArray++Builtin.zeroCells z.cells (grownCap w (len+ys.length) cap e - (len+ys.length))) e))
 size:news.length=ys.length*t.size
 one:∀ v∈news,v.oneCell'=true
 rep:∀ i y,ys[i]?=some y→∃ c,ai w I tk t y c∧∀ j v,c[j]?=some v→news[i*t.size+j]?=some v
theorem Bw.toks {t:Ty} (hp:∀ s,s∈mentions t→tk' s=tk s) {ys:List t.den} {T T2 ty:TypeId} {x:Value} {news:List Value} (h:Bw P w I tk t ys T T2 ty x news):Bw P w I tk' t ys T T2 ty x news:=
 ⟨h.room,h.grow,h.size,h.one,fun i y hy=>by obtain ⟨c,hc,hv⟩:=h.rep i y hy; exact ⟨c,hc.congr hp,hv⟩⟩
theorem More.x {t:Ty} {ys:List t.den} {T T2 ty:TypeId} {u2:TypeDesc} {x:Value} {news:List Value} (h:More P w I tk t ys x news) (h2:P.underlying T2=some u2) (hu:lJ u2):Bw P w I tk t ys T T2 ty x news where
 room:=fun hue hi hsz _ _ _ _ hroom _ hst hno=>uG w hue hi h2 hu h.len (by rw [hsz]; exact h.cells w rfl) hroom hst hno
 grow:=fun hue hi hz hsz _ _ _ _ _ ho hg h63 hfit=>y5 w hue hi hz h2 hu h.len (by rw [hsz]; exact h.cells w.drew rfl) ho hg h63 hfit
 size:=h.size
 one:=h.one
 rep:=h.rep
theorem PI {T T2 ty e:TypeId} {t:Ty} {k k2:IntKind} {n:Int} (hue:P.underlying T=some (.slice e)) (hA:fO P e t) (hp:t.plain=true) (h2:P.underlying T2=some (.int k2)) (h0:0≤n) (hb:n.toNat≤70368744177664):
  ∃ news,Bw P w I tk t (List.replicate n.toNat t.dflt) T T2 ty (.int k n) news:=by
 obtain ⟨i,z,hi,hz,hzc,hsz,hzs⟩:=kD hA hp
 obtain ⟨m,rfl⟩:=Int.eq_ofNat_of_zero_le h0
 simp only [Int.toNat_natCast] at hb ⊢
 have hw:IntKind.i64.wrap (m:Int)=m:=by
  have e1:((m:Int)%2^IntKind.i64.bits)=m:=Int.emod_eq_of_lt (by omega) (by show (m:Int)<18446744073709551616; omega)
  unfold IntKind.wrap
  simp only [e1]
  rw [if_neg]
  simp only [Bool.and_eq_true,decide_eq_true_eq,not_and]
  intro _ h
  have:(9223372036854775808:Int)≤m:=h
  omega
 have hlen:(Builtin.zeroCells z.cells m).toList.length=m*t.size:=by simp [Builtin.zeroCells,hzs]
 have hai:∀ w':World,(asIntOf (.int k (m:Int))).run P w'= .ok (k,(m:Int)) w':=fun _=>rfl
 have hng:¬ ((m:Int)<0):=by omega
 have hz0:m*i.size=0→Builtin.zeroCells z.cells m= #[]:=fun h=>by
  apply Array.eq_empty_of_size_eq_zero
  have:=hlen
  rw [Array.length_toList] at this
  rw [this,← hsz,h]
 refine ⟨(Builtin.zeroCells z.cells m).toList,?_,?_,by simpa using hlen,fun v hv=> ?_,fun j y hj=> ?_⟩
 ·intro e1 i1 hue1 hi1 hsz1 hby ad len cap hroom w2 hst hno
  rw [hue] at hue1; cases hue1
  rw [hi] at hi1; cases hi1
  simp only [List.length_replicate] at hby hroom ⊢
  have hby':¬ (281474976710656<(m:Int)*(i.bytes:Int)):=by
   have:=Int.ofNat_le.2 hby
   rw [Int.natCast_mul] at this
   omega
  by_cases hm0:m*i.size=0
  ·have hz2:=hz0 hm0
   rw [hz2] at hst
   cases ad with
   |none=>
    have:=hno rfl; subst this
    simp [Builtin.append_,run_underlying hue,run_underlying h2,sizeOf,typeInfo,hi,asInt,hai,hw,hng,hby',hroom,hm0]
   |some a=>
    have hs:=hst a rfl
    simp only [List.nil_eq,Array.toList_empty] at hs
    simp [Builtin.append_,run_underlying hue,run_underlying h2,sizeOf,typeInfo,hi,asInt,hai,hw,hng,hby',hroom,hm0,hs]
  ·cases ad with
   |none=>
    have:=hno rfl; subst this
    simp [Builtin.append_,run_underlying hue,run_underlying h2,sizeOf,typeInfo,zeroValue,hi,hz,asInt,hai,hw,hng,hby',hroom,hm0]
   |some a=>
    have hs:=hst a rfl
    simp [Builtin.append_,run_underlying hue,run_underlying h2,sizeOf,typeInfo,zeroValue,hi,hz,asInt,hai,hw,hng,hby',hroom,hm0,hs]
 ·intro e1 i1 z1 hue1 hi1 hz1 hsz1 hby ad len cap olds ho hg h63 hfit
  rw [hue] at hue1; cases hue1
  rw [hi] at hi1; cases hi1
  rw [hz] at hz1; cases hz1
  simp only [List.length_replicate] at hby hg h63 hfit ⊢
  have hby':¬ (281474976710656<(m:Int)*(i.bytes:Int)):=by
   have:=Int.ofNat_le.2 hby
   rw [Int.natCast_mul] at this
   omega
  have hn':¬ (len+m≤cap):=by omega
  have h63':¬ (9223372036854775807<((len:Int)+(m:Int))):=by omega
  have h48':¬ (281474976710656<Builtin.nextslicecap (len+m) cap*i.bytes):=by omega
  by_cases hm0:m*i.size=0
  ·simp [Builtin.append_,run_underlying hue,run_underlying h2,sizeOf,typeInfo,zeroValue,hi,hz,asInt,hai,hw,hng,hby',hn',h63',h48',Question.forced,ho,newRow,grownCap,hm0,hz0 hm0]
  ·simp [Builtin.append_,run_underlying hue,run_underlying h2,sizeOf,typeInfo,zeroValue,hi,hz,asInt,hai,hw,hng,hby',hn',h63',h48',Question.forced,ho,newRow,grownCap,hm0]
 ·obtain ⟨q,hk⟩:=List.mem_iff_getElem?.1 hv
  have hkl:=(List.getElem?_eq_some_iff.1 hk).1
  rw [hlen] at hkl
  have hu:0<z.cells.size:=by
   rw [hzs]
   rcases Nat.eq_zero_or_pos t.size with h0|h0
   ·rw [h0] at hkl; omega
   ·exact h0
  rw [uN _ _ _ hu (by rw [hzs]; exact hkl)] at hk
  exact BS hp v (by rw [← hzc]; exact Array.mem_toList_iff.2 (Array.mem_of_getElem? hk))
 ·rw [List.getElem?_replicate] at hj
  split at hj
  ·rename_i hjn
   cases hj
   refine ⟨t.fJ,dZ hp,fun q v hk=> ?_⟩
   have hzl:=RO hp
   have hkl:=(List.getElem?_eq_some_iff.1 hk).1
   have hm:(j+1)*t.size≤m*t.size:=Nat.mul_le_mul_right _ (by omega)
   rw [Nat.add_mul,Nat.one_mul] at hm
   rw [uN _ _ _ (by omega) (by rw [hzs]; omega),hzs,Nat.mul_comm,Nat.mul_add_mod,Nat.mod_eq_of_lt (by omega),← hk,← hzc]
   simp
  ·cases hj
theorem Hl (hE:eD C.P E) (h:Inv C st tm w I tk) {d:Nat} (hd:d<st.sl.length) {T T2 ty:TypeId} {t:Ty} (hp:t.known=true) (hfp:t.frz.plain=true) (htop:t.bL=false) (hno:d∉mentions t) (hT:E.T T=some (.sl t.frz))
  {nl:Bool} {l ys:List t.den} {ad:Option Addr} {cap:Nat} {x:Value} {news:List Value} (hmore:Bw C.P w I tk t ys T T2 ty x news) (hnl:nl=true↔ad=none) (hcap:l.length≤cap)
  (hr:EL C w I tk ad cap t l) (hbig:(2*(l.length+ys.length)+512)*E.B T≤70368744177664):
  ∃ v w' tk',(Builtin.append_ #[T,T2] ty #[.slice ad l.length cap,x]).run C.P w= .ok v w'∧Inv C (aN (kQ d ⟨.dyn t,(nl&&ys.isEmpty,l++ys)⟩) st) tm w' I tk'∧bf w' I tk' (.va d t.frz) v:=by
 obtain ⟨_,e,hue,hA0⟩:=hE.ty T _ hT
 have hA:fO C.P e t.frz:=hA0
 obtain ⟨i,z,hi,hz,hzc,hsz,hzs⟩:=kD hA hfp
 rw [Ty.fA] at hsz hzs
 obtain ⟨hB,hB0⟩:=hE.bytes T e i hue (by rw [hT]; rfl) hi
 have hyb:ys.length*i.bytes≤70368744177664:=Nat.le_trans (Nat.le_trans (Nat.mul_le_mul_left _ hB) (Nat.mul_le_mul_right _ (by omega))) hbig
 by_cases hroom:l.length+ys.length≤cap
 ·
  rcases hr with h0|⟨b,oo,eb,rfl,hrow,hfree,hI,hnew,hlt,hAb⟩
  ·have hl0:l= []:=List.eq_nil_of_length_eq_zero (by omega)
   have hy0:ys= []:=List.eq_nil_of_length_eq_zero (by omega)
   subst hl0; subst hy0
   have hnews:news= []:=List.eq_nil_of_length_eq_zero (by rw [hmore.size]; simp)
   subst hnews
   have hrun:=hmore.room hue hi hsz hyb (ad:=ad) (len:=0) (cap:=cap) (by simp) (w2:=w) (fun a _=>by simp [storeCells]) (fun _=>rfl)
   obtain ⟨tok',h3,h4⟩:=h.putRow hd htop hno (l:= []) hnl hcap (.inl h0)
   exact ⟨_,w,tok',hrun,by simpa using h3,h4⟩
  ·obtain ⟨cs,hblk,hrm,hel⟩:=hrow
   have hns:=hmore.size
   have hm1:(l.length+ys.length)*t.size≤cap*t.size:=Nat.mul_le_mul_right _ hroom
   rw [Nat.add_mul] at hm1
   have hst:=run_storeCells_cells (P:=C.P) b (oo+l.length*t.size) news 0 w (fun j hj=>by rw [hblk.cell,List.getElem?_eq_getElem (by omega)]; rfl) (fun j hj=>hblk.frozen _ (by omega)) hmore.one
   have hrun:=hmore.room hue hi hsz hyb (ad:=some ⟨b,oo,none⟩) (len:=l.length) (cap:=cap) hroom (w2:=w.setCells b (oo+l.length*t.size) news)
    (fun a ha=>by cases ha; rw [addr_add,hsz]; simpa using hst) (fun hc=>by cases hc)
   have hW:=Wrote.cells b news (oo+l.length*t.size) w
   have h3:=h.KN hfree hI hnew hW
   have hnlf:nl=false:=by cases nl with|false=>rfl|true=>exact absurd (hnl.1 rfl) (by simp)
   subst hnlf
   have hIb:∀ q,I q→(w.setCells b (oo+l.length*t.size) news).heap[q]?=w.heap[q]?:=fun q hq=>hW.other q (by rintro rfl; exact hI hq)
   obtain ⟨tok',h4,h5⟩:=h3.putRow hd htop hno (l:=l++ys) (ad:=some ⟨b,oo,none⟩) (cap:=cap) (nl:=false) (by simp) (by simpa using hroom) (.inr ⟨b,oo,eb,rfl,⟨_,hblk.setCells (by omega),by rw [iH _ _ _ (by omega)]; exact hrm,fun j y hj=>by
    rcases Nat.lt_or_ge j l.length with hjl|hjl
    ·rw [List.getElem?_append_left hjl] at hj
     obtain ⟨c,hc,hv⟩:=hel j y hj
     refine ⟨c,hc.mono (fun _ hb=>hb) hIb (aU.le.refl _),fun q v hq=> ?_⟩
     have hql:=(List.getElem?_eq_some_iff.1 hq).1
     have hcl:=hc.length
     have hm2:(j+1)*t.size≤l.length*t.size:=Nat.mul_le_mul_right _ hjl
     rw [Nat.add_mul,Nat.one_mul] at hm2
     rw [dn _ _ _ (by omega),if_neg (by omega)]
     exact hv q v hq
    ·rw [List.getElem?_append_right hjl] at hj
     obtain ⟨c,hc,hv⟩:=hmore.rep _ y hj
     refine ⟨c,hc.mono (fun _ hb=>hb) hIb (aU.le.refl _),fun q v hq=> ?_⟩
     have hql:=(List.getElem?_eq_some_iff.1 hq).1
     have hcl:=hc.length
     have hj2:j - l.length<ys.length:=(List.getElem?_eq_some_iff.1 hj).1
     have hm2:(j - l.length+1)*t.size≤ys.length*t.size:=Nat.mul_le_mul_right _ hj2
     have hm3:j*t.size=l.length*t.size+(j - l.length)*t.size:=by rw [← Nat.add_mul]; congr 1; omega
     rw [Nat.add_mul,Nat.one_mul] at hm2
     rw [dn _ _ _ (by omega),if_pos (by omega),← hv q v hq]
     congr 1; omega⟩,hfree,hI,hnew,by rw [hW.size]; exact hlt,hAb⟩)
   refine ⟨_,_,tok',hrun,by simpa using h4,?_⟩
   rw [List.length_append] at h5
   exact h5
 ·
  have hg:cap<l.length+ys.length:=by omega
  have hone:(l.length+ys.length)*1≤(l.length+ys.length)*E.B T:=Nat.mul_le_mul_left _ hB0
  have hle:(l.length+ys.length)*E.B T≤(2*(l.length+ys.length)+512)*E.B T:=Nat.mul_le_mul_right _ (by omega)
  have hby:(l.length+ys.length)*i.bytes≤(l.length+ys.length)*E.B T:=Nat.mul_le_mul_left _ hB
  have olds:∃ olds:List Value,(Builtin.firstCells t.size l.length (.slice ad l.length cap)).run C.P w.drew= .ok olds.toArray w.drew∧olds.length=l.length*t.size∧
    ∀ j y,l[j]?=some y→∃ c,ai w I tk t y c∧∀ q v,c[q]?=some v→olds[j*t.size+q]?=some v:=by
   rcases hr with h0|⟨b,oo,eb,rfl,hrow,_⟩
   ·have hl0:l= []:=List.eq_nil_of_length_eq_zero (by omega)
    subst hl0
    refine ⟨[],?_,by simp,by simp⟩
    cases ad<;>simp [Builtin.firstCells,loadCells,loadCellsFrom]
   ·obtain ⟨cs,hblk,hrm,hel⟩:=hrow
    obtain ⟨olds,q1,q2,q3,q4⟩:=uR hp (w:=w) (I:=I) (tk:=tk) (l:=l) (f:=fun j=>cs[oo+j]?) (fun j y hj=>by
     obtain ⟨c,hc,hv⟩:=hel j y hj
     exact ⟨c,hc,fun q v hq=>by rw [← Nat.add_assoc]; exact hv q v hq⟩)
    refine ⟨olds,run_firstCells_some w.drew t.size l.length _ _ _ olds q1 (fun j v hj=> ?_),q1,q4⟩
    rw [addr_add]
    exact (cell_of_heap (w:=w) (w':=w.drew) rfl _).trans (by rw [hblk.cell]; exact q2 j v hj)
  obtain ⟨olds,q1,q2,q3⟩:=olds
  have hns:=hmore.size
  have hrun:=hmore.grow hue hi hz hsz hyb (ad:=ad) (len:=l.length) (cap:=cap) (by rw [hsz]; exact q1) hg (by omega) (growslice_fits hg (by omega))
  have hge:=grownCap_ge w (l.length+ys.length) cap e
  have hys:ys.isEmpty=false:=by
   cases ys with
   |nil=>simp at hg; omega
   |cons=>rfl
  rw [hys,Bool.and_false]
  have hG:lg w (w.drew.alloc (.cells (olds.toArray++news.toArray++Builtin.zeroCells z.cells (grownCap w (l.length+ys.length) cap e - (l.length+ys.length))) e)):=(lg.drew w).trans (lg.alloc w.drew _)
  have hb:=Blk.alloc w.drew (olds.toArray++news.toArray++Builtin.zeroCells z.cells (grownCap w (l.length+ys.length) cap e - (l.length+ys.length))) e
  obtain ⟨tok',h4,h5⟩:=h.zi hd hG (by simp) (T:=e) (t:=t) (l:=l++ys) (cap:=grownCap w (l.length+ys.length) cap e) hb hA htop hno (by simpa using hge) (by
    simp only [Array.toList_append,List.length_append,Array.length_toList,List.size_toArray,Builtin.zeroCells,Array.size_map,Array.size_range,q2,hns,hzs,← Nat.add_mul]
    exact Nat.le_of_eq (by congr 1; omega)) (fun j y hj=>by
    rcases Nat.lt_or_ge j l.length with hjl|hjl
    ·rw [List.getElem?_append_left hjl] at hj
     obtain ⟨c,hc,hv⟩:=q3 j y hj
     refine ⟨c,hc,fun q v hq=> ?_⟩
     have hv':=hv q v hq
     have:=(List.getElem?_eq_some_iff.1 hv').1
     simp only [Array.toList_append,List.append_assoc]
     rw [List.getElem?_append_left (by omega)]
     exact hv'
    ·rw [List.getElem?_append_right hjl] at hj
     obtain ⟨c,hc,hv⟩:=hmore.rep _ y hj
     refine ⟨c,hc,fun q v hq=> ?_⟩
     have hv':=hv q v hq
     have:=(List.getElem?_eq_some_iff.1 hv').1
     have hm3:j*t.size=l.length*t.size+(j - l.length)*t.size:=by rw [← Nat.add_mul]; congr 1; omega
     simp only [Array.toList_append,List.append_assoc]
     rw [List.getElem?_append_right (by omega),List.getElem?_append_left (by omega),← hv']
     congr 1; omega)
  refine ⟨_,_,tok',hrun,h4,?_⟩
  rw [List.length_append] at h5
  exact h5
theorem jc.part {b o cap:Nat} {e:TypeId} {t:Ty} {l:List t.den} (h:jc w I tk b e o cap t l) {lo n:Nat} (hl:lo+n≤cap):jc w I tk b e (o+lo*t.size) (cap - lo) t ((l.drop lo).take n):=by
 obtain ⟨cs,h1,h2,h3⟩:=h
 refine ⟨cs,h1,?_,fun i x hx=> ?_⟩
 ·have:lo*t.size+(cap - lo)*t.size=cap*t.size:=by rw [← Nat.add_mul]; congr 1; omega
  omega
 ·obtain ⟨hi,hx⟩:=rP _ _ _ _ _ hx
  obtain ⟨c,hc,hv⟩:=h3 _ x hx
  refine ⟨c,hc,fun j v hj=> ?_⟩
  have:=hv j v hj
  rw [Nat.add_mul] at this
  rw [← this]; congr 1; omega
theorem More.toks {t:Ty} (hp:∀ s,s∈mentions t→tk' s=tk s) {ys:List t.den} {x:Value} {news:List Value} (h:More P w I tk t ys x news):More P w I tk' t ys x news:=
 ⟨h.len,h.cellsK,h.size,h.one,fun i y hy=>by obtain ⟨c,hc,hv⟩:=h.rep i y hy; exact ⟨c,hc.congr hp,hv⟩⟩
theorem Eg {T:TypeId} {u:Ty} (h:E.isT T (.sl u)=true):E.T T=some (.sl u):=by
 unfold Env.isT at h
 split at h
 ·rename_i t hT
  simp only [Bool.or_false,decide_eq_true_eq] at h
  rw [hT,← h]
 ·cases h
theorem OM {dst:Option Nat} {av:List Nat} {t:Ty} (h:QT dst av t=true):t.frz.plain=true∧t.known=true∧t.bL=false∧(∀ d,dst=some d→d∉mentions t)∧∀ g,g∈av→g∉mentions t:=by
 unfold QT o9 at h
 simp only [Bool.and_eq_true,Bool.not_eq_true',List.all_eq_true,List.any_eq_false] at h
 obtain ⟨⟨⟨h1,h2⟩,h3⟩,h4⟩:=h
 refine ⟨h1,h2,h3,fun d hd hm=> ?_,fun g hg hm=> ?_⟩
 ·exact h4 d hm d (by rw [hd]; simp) (beq_iff.2 rfl)
 ·exact h4 g hm g (List.mem_append_right _ hg) (beq_iff.2 rfl)
theorem Apart.more {u:Ty} {rows:List RTk} {l:List (Nat×List u.den)} (hl:rows.length=l.length) (h:Apart u rows l) {k:Nat} {rt r0:RTk} {b:Nat} {x:List u.den} (hr:rows[k]?=some rt) (hb:rt.blk=some b) (hb0:r0.blk=some b) (hoff:r0.off=rt.off) (hlen:rt.len≤r0.len)
  (hf:(List.getD l k (0,[])).1≠2) {y:List u.den}:Apart u (rows++ [r0]) (List.set l k (2,y)++ [(1,x)]):=by
 have hk:k<l.length:=by rw [← hl]; exact (List.getElem?_eq_some_iff.1 hr).1
 have hlk:l[k]?=some l[k]:=List.getElem?_eq_getElem hk
 have hD:List.getD l k (0,[])=l[k]:=by rw [List.getD_eq_getElem?_getD,hlk]; rfl
 rw [hD] at hf
 obtain ⟨_,hkk⟩:=h k rt _ _ hr hlk
 have hm:rt.len*u.size≤r0.len*u.size:=Nat.mul_le_mul_right _ hlen
 have oth:∀ {k':Nat} {r':RTk},rows[k']?=some r'→k'≠k→r'.blk=some b→(List.getD l k' (0,[])).1=2∧r'.off+r'.len*u.size≤rt.off+rt.len*u.size:=fun hr' hne hb'=>(hkk _ _ b hr' hne hb hb').2 hf
 have fl:∀ k',k'<l.length→(List.getD (List.set l k (2,y)++ [(1,x)]) k' (0,[])).1=if k=k' then 2 else (List.getD l k' (0,[])).1:=by
  intro k' hk'
  rw [List.getD_eq_getElem?_getD,List.getElem?_append_left (by simpa using hk'),List.getElem?_set]
  by_cases e:k=k'
  ·subst e; simp [hk]
  ·rw [if_neg e,if_neg e,List.getD_eq_getElem?_getD]
 intro k1 r1 f1 y1 hr1 hx1
 rcases Nat.lt_or_ge k1 l.length with hk1|hk1
 ·rw [List.getElem?_append_left (by omega)] at hr1
  rw [List.getElem?_append_left (by simpa using hk1),List.getElem?_set] at hx1
  by_cases e:k=k1
  ·subst e
   rw [if_pos rfl,if_pos hk] at hx1
   simp only [Option.some.injEq,Prod.mk.injEq] at hx1
   obtain ⟨rfl,rfl⟩:=hx1
   exact ⟨fun h=>(by cases h),fun k' r' b' _ _ _ _=>⟨by decide,fun h=>absurd rfl h⟩⟩
  ·rw [if_neg e] at hx1
   obtain ⟨a1,a2⟩:=h k1 r1 f1 y1 hr1 hx1
   refine ⟨a1,fun k' r' b' hr' hne hb1 hb'=> ?_⟩
   rcases Nat.lt_or_ge k' l.length with hk'|hk'
   ·rw [List.getElem?_append_left (by omega)] at hr'
    obtain ⟨a3,a4⟩:=a2 k' r' b' hr' hne hb1 hb'
    refine ⟨a3,fun hf1=>⟨?_,(a4 hf1).2⟩⟩
    rw [fl k' hk']
    split
    ·rfl
    ·exact (a4 hf1).1
   ·rw [List.getElem?_append_right (by omega)] at hr'
    have e0:k' - rows.length=0:=by have:=(List.getElem?_eq_some_iff.1 hr').1; simp at this; omega
    rw [e0] at hr'
    simp only [List.getElem?_cons_zero,Option.some.injEq] at hr'
    subst hr'
    rw [hb0] at hb'; cases hb'
    have hf2:=(oth hr1 (fun h=>e h.symm) hb1).1
    rw [List.getD_eq_getElem?_getD,hx1] at hf2
    have hf2':f1=2:=hf2
    subst hf2'
    exact ⟨by decide,fun h=>absurd rfl h⟩
 ·rw [List.getElem?_append_right (by omega)] at hr1
  rw [List.getElem?_append_right (by simpa using hk1)] at hx1
  have e:k1 - rows.length=0:=by have:=(List.getElem?_eq_some_iff.1 hr1).1; simp at this; omega
  have e2:k1 - (List.set l k (2,y)).length=0:=by rw [List.length_set]; omega
  rw [e] at hr1; rw [e2] at hx1
  simp only [List.getElem?_cons_zero,Option.some.injEq] at hr1 hx1
  subst hr1
  simp only [Prod.mk.injEq] at hx1
  obtain ⟨rfl,rfl⟩:=hx1
  refine ⟨fun h=>(by cases h),fun k' r' b' hr' hne hb1 hb'=>⟨by decide,fun _=> ?_⟩⟩
  rw [hb0] at hb1; cases hb1
  rcases Nat.lt_or_ge k' l.length with hk'|hk'
  ·rw [List.getElem?_append_left (by omega)] at hr'
   rw [fl k' hk']
   by_cases e:k=k'
   ·subst e
    rw [hr] at hr'; cases hr'
    exact ⟨by rw [if_pos rfl],by rw [hoff]; omega⟩
   ·rw [if_neg e]
    obtain ⟨a1,a2⟩:=oth hr' (fun h=>e h.symm) hb'
    exact ⟨a1,by rw [hoff]; omega⟩
  ·have:k'<(rows++ [r0]).length:=(List.getElem?_eq_some_iff.1 hr').1
   simp at this
   exact absurd (by omega) hne
theorem Apart.down {u:Ty} {rows:List RTk} {l:List (Nat×List u.den)} (h:Apart u rows l) {k f:Nat} {y:List u.den} (hf:f=2∨(f=3∧∀ r,rows[k]?=some r→r.blk=none)):Apart u rows (List.set l k (f,y)):=by
 intro k1 r1 f1 y1 hr1 hx1
 rw [List.getElem?_set] at hx1
 by_cases e:k=k1
 ·subst e
  rw [if_pos rfl] at hx1
  split at hx1
  ·simp only [Option.some.injEq,Prod.mk.injEq] at hx1
   obtain ⟨rfl,rfl⟩:=hx1
   rcases hf with rfl|⟨rfl,hf⟩
   ·exact ⟨fun h=>(by cases h),fun k' r' b' _ _ _ _=>⟨by decide,fun h=>absurd rfl h⟩⟩
   ·have:=hf r1 hr1
    exact ⟨fun _=>this,fun k' r' b' _ _ hb _=>by rw [this] at hb; cases hb⟩
  ·cases hx1
 ·rw [if_neg e] at hx1
  obtain ⟨a1,a2⟩:=h k1 r1 f1 y1 hr1 hx1
  refine ⟨a1,fun k' r' b' hr' hne hb1 hb'=> ?_⟩
  obtain ⟨a3,a4⟩:=a2 k' r' b' hr' hne hb1 hb'
  refine ⟨a3,fun hf1=>⟨?_,(a4 hf1).2⟩⟩
  rw [List.getD_eq_getElem?_getD,List.getElem?_set]
  by_cases e2:k=k'
  ·subst e2
   rw [if_pos rfl]
   split
   ·rcases hf with rfl|⟨rfl,hf⟩
    ·rfl
    ·have:=hf r' hr'; rw [this] at hb'; cases hb'
   ·have:=(a4 hf1).1
    rename_i hlt
    rw [List.getD_eq_getElem?_getD,List.getElem?_eq_none (by omega)] at this
    exact this
  ·rw [if_neg e2,← List.getD_eq_getElem?_getD]
   exact (a4 hf1).1
theorem Ez {T T2 T0 ty:TypeId} {u2:TypeDesc} {s2:SV} {v1 v2:Value} {p:Nat} {t u:Ty} {k:Nat} {ys:List u.den} (hE:eD C.P E) (hV:View sv st) (h:Inv C st tm w I tk) (h1:bf w I tk (.sd ⟨.rid p t,k⟩) v1) (h2:bf w I tk s2 v2)
  (hys:xX E sv T0 s2=some ⟨u,ys⟩) (hu2:C.P.underlying T2=some u2) (hsos:lJ u2) (hf:EA E T sv p t k ⟨u,ys⟩=some (true,e)):
  ∃ v w' tk' s,e.v=some s∧(Builtin.append_ #[T,T2] ty #[v1,v2]).run C.P w= .ok v w'∧Inv C (aN e.ps st) tm w' I tk'∧bf w' I tk' s v:=by
 unfold EA at hf
 split at hf
 case h_2=>cases hf
 rename_i u' l hb
 split at hf
 case isFalse=>cases hf
 rename_i hu
 dsimp only at hu
 subst hu
 cases hc:(decide (u=t)&&E.isT T (.sl t)&&Nat.blt p 1000000) with
 |false=>rw [hc] at hf; cases hf
 |true=>
 rw [hc] at hf
 simp only [cond_true,Option.some.injEq,Prod.mk.injEq,Bool.and_eq_true,decide_eq_true_eq,Bool.not_eq_true'] at hf
 obtain ⟨⟨hfl,hbig⟩,rfl⟩:=hf
 simp only [Bool.and_eq_true,decide_eq_true_eq] at hc
 obtain ⟨⟨rfl,hT⟩,hp1⟩:=hc
 have hT:=Eg hT
 have hpn:∀ j,p≠site j:=fun j e=>by rw [e] at hp1; exact absurd (Nat.le_of_ble_eq_true hp1) (by unfold site; omega)
 have hbp:=hV.box p _ hb
 have hrow:rowOf sv p u k=some (List.getD l k (0,[])):=by unfold rowOf; rw [hb]; simp
 obtain ⟨q,rt,g1,g2,g3,rfl,hrr⟩:=row_of hV h h1 hrow
 obtain ⟨q',hq',hd⟩:=h.boxes p _ hbp
 rw [g1] at hq'; cases hq'
 obtain ⟨d1,hpl,d3,d4,d5,d6⟩:=hd
 have hkl:k<l.length:=by rw [← d4]; exact (List.getElem?_eq_some_iff.1 g3).1
 have hlk:l[k]?=some l[k]:=List.getElem?_eq_getElem hkl
 have hD:List.getD l k (0,[])=l[k]:=by rw [List.getD_eq_getElem?_getD,hlk]; rfl
 rw [hD] at hrr hbig hfl ⊢
 obtain ⟨f0,x,hlx⟩:∃ f0 x,l[k]=(f0,x):=⟨_,_,rfl⟩
 have hf2:f0≠2:=by
  rw [hlx] at hfl
  exact eP.1 hfl
 simp only [hlx] at hrr hbig ⊢
 obtain ⟨r1,r2,r3⟩:=hrr
 obtain ⟨_,et,hue,hA0⟩:=hE.ty T _ hT
 have hA:fO C.P et u:=hA0
 obtain ⟨i,z,hi,hz,hzc,hsz,hzs⟩:=kD hA hpl
 obtain ⟨hB,hB0⟩:=hE.bytes T et i hue (by rw [hT]; rfl) hi
 obtain ⟨news,hmore⟩:=vR (P:=C.P) hV h (mh hpl) h2 hys
 have hfc:=hmore.cells
 have hns:=hmore.size
 have hhdr:rt.hdr= .slice rt.ad x.length rt.cap:=by unfold RTk.hdr; rw [r1]
 rw [hhdr]
 have hl1:(List.set l k (bif Nat.beq f0 3 then 3 else 2,x)).length=l.length:=by simp
 have hdat:∀ (k':Nat) (fx:Nat×List u.den),(List.set l k (bif Nat.beq f0 3 then 3 else 2,x))[k']?=some fx→∃ f,l[k']?=some (f,fx.2):=by
  intro k' fx hx
  rw [List.getElem?_set] at hx
  by_cases e:k=k'
  ·subst e
   rw [if_pos rfl,if_pos hkl] at hx
   simp only [Option.some.injEq] at hx
   subst hx
   exact ⟨f0,by rw [hlk,hlx]⟩
  ·rw [if_neg e] at hx; exact ⟨fx.1,hx⟩
 have hk3:f0=3→rt.blk=none:=(d5 k rt f0 x g3 (by rw [hlk,hlx])).1
 have hdn:Apart u q.rows (List.set l k (bif Nat.beq f0 3 then 3 else 2,x)):=by
  cases e3:Nat.beq f0 3 with
  |true=>exact d5.down (.inr ⟨rfl,fun r hr=>by rw [g3] at hr; cases hr; exact hk3 (beq_iff.1 e3)⟩)
  |false=>exact d5.down (.inl rfl)
 by_cases hroom:x.length+ys.length≤rt.cap
 ·
  rcases r3 with ⟨rb,r3⟩|⟨b,rb,rad,hown⟩
  ·have hx0:x= []:=List.eq_nil_of_length_eq_zero (by omega)
   have hy0:ys= []:=List.eq_nil_of_length_eq_zero (by omega)
   subst hx0; subst hy0
   have hnews:news= []:=List.eq_nil_of_length_eq_zero (by rw [hmore.size]; simp)
   subst hnews
   have hrun:=uG (P:=C.P) (ty:=ty) w hue hi hu2 hsos (ad:=rt.ad) (len:=0) (cap:=rt.cap) hmore.len (by rw [hsz]; exact hfc w rfl) (by simp) (w2:=w) (fun a _=>by simp [storeCells]) (fun _=>rfl)
   obtain ⟨tk',h3,h4⟩:=h.zx hbp g1 hpn (r0:=rt) (f0:=1) (x:= []) ⟨r1,r2,.inl ⟨rb,r3⟩⟩ (fun b hb=>by rw [rb] at hb; cases hb) hl1 hdat (hdn.snoc (by rw [hl1]; exact d4) (fun h=>by cases h) fun b r hb=>by rw [rb] at hb; cases hb)
   refine ⟨_,w,tk',_,rfl,hrun,by simp only [List.append_nil]; exact h3,⟨rfl,?_⟩⟩
   have e4:rt.hdr= .slice rt.ad 0 rt.cap:=hhdr
   rw [e4] at h4
   exact aA.one (t:= .rid p u) rfl h4
  ·obtain ⟨cs,hblk,hrm,hel⟩:=hown
   have hm1:(x.length+ys.length)*u.size≤rt.cap*u.size:=Nat.mul_le_mul_right _ hroom
   rw [Nat.add_mul] at hm1
   have hst:=run_storeCells_cells (P:=C.P) b (rt.off+x.length*u.size) news 0 w (fun j hj=>by rw [hblk.cell,List.getElem?_eq_getElem (by omega)]; rfl) (fun j hj=>hblk.frozen _ (by omega)) hmore.one
   have hrun:=uG (P:=C.P) (ty:=ty) w hue hi hu2 hsos (ad:=rt.ad) (len:=x.length) (cap:=rt.cap) hmore.len (by rw [hsz]; exact hfc w rfl) hroom (w2:=w.setCells b (rt.off+x.length*u.size) news)
    (fun a ha=>by rw [rad] at ha; cases ha; rw [addr_add,hsz]; simpa using hst) (fun hc=>by rw [rad] at hc; cases hc)
   have hW:=Wrote.cells b news (rt.off+x.length*u.size) w
   have howned:q.own b:=Tk.uS g3 rb
   have hI:=h.tokI p q b g1 howned
   have hIb:∀ a,I a→(w.setCells b (rt.off+x.length*u.size) news).heap[a]?=w.heap[a]?:=fun a ha=>hW.other a (by rintro rfl; exact hI ha)
   have hblk':=hblk.setCells (o:=rt.off+x.length*u.size) (vs:=news) (by omega)
   have keepRow:∀ (k':Nat) (r':RTk) (fx:Nat×List u.den),q.rows[k']?=some r'→l[k']?=some fx→kK (w.setCells b (rt.off+x.length*u.size) news) I tk r' u fx.2:=by
    intro k' r' fx hr' hx'
    obtain ⟨a1,a2,a3⟩:=d6 k' r' fx hr' hx'
    refine ⟨a1,a2,a3.imp id ?_⟩
    rintro ⟨b',e1,e2,e3⟩
    refine ⟨b',e1,e2,?_⟩
    by_cases eb:b'=b
    ·subst eb
     have hend:r'.off+r'.len*u.size≤rt.off+x.length*u.size:=by
      by_cases ek:k'=k
      ·subst ek
       rw [g3] at hr'; cases hr'
       rw [r1]; exact Nat.le_refl _
      ·have:=((d5 k rt f0 x g3 (by rw [hlk,hlx])).2 k' r' b' hr' ek rb e1).2 hf2
       rw [r1] at this
       exact this.2
     obtain ⟨cs',c1,c2,c3⟩:=e3
     obtain ⟨et',ec'⟩:=hblk.same c1
     subst ec'
     refine ⟨_,et' ▸ hblk',by rw [iH _ _ _ (by omega)]; exact c2,fun j y hy=> ?_⟩
     obtain ⟨c,hc,hv⟩:=c3 j y hy
     refine ⟨c,hc.mono (fun _ hb=>hb) hIb (aU.le.refl _),fun a v ha=> ?_⟩
     have hal:=(List.getElem?_eq_some_iff.1 ha).1
     have hcl:=hc.length
     have hjl:=(List.getElem?_eq_some_iff.1 hy).1
     have hm2:(j+1)*u.size≤fx.2.length*u.size:=Nat.mul_le_mul_right _ hjl
     rw [Nat.add_mul,Nat.one_mul] at hm2
     rw [a1] at hend
     rw [dn _ _ _ (by omega),if_neg (by omega)]
     exact hv a v ha
    ·exact e3.world (fun _ hb=>hb) hIb (aU.le.refl _) (hW.other b' eb)
   have h3:=h.qY hbp g1 howned hW (d':=⟨.pool u,l⟩) ⟨d1,hpl,d3,d4,d5,keepRow⟩
   have hb3:(st.gI p ⟨.pool u,l⟩).box p=some ⟨.pool u,l⟩:=by rw [iE,if_pos rfl]
   let r0:RTk:=⟨some b,rt.off,rt.ad,x.length+ys.length,rt.cap,rt.tid⟩
   have hrr0:kK (w.setCells b (rt.off+x.length*u.size) news) I tk r0 u (x++ys):=by
    refine ⟨by simp [r0],by simpa using hroom,.inr ⟨b,rfl,rad,_,hblk',by rw [iH _ _ _ (by omega)]; exact hrm,fun j y hj=> ?_⟩⟩
    rcases Nat.lt_or_ge j x.length with hjl|hjl
    ·rw [List.getElem?_append_left hjl] at hj
     obtain ⟨c,hc,hv⟩:=hel j y hj
     refine ⟨c,hc.mono (fun _ hb=>hb) hIb (aU.le.refl _),fun a v ha=> ?_⟩
     have hql:=(List.getElem?_eq_some_iff.1 ha).1
     have hcl:=hc.length
     have hm2:(j+1)*u.size≤x.length*u.size:=Nat.mul_le_mul_right _ hjl
     rw [Nat.add_mul,Nat.one_mul] at hm2
     rw [dn _ _ _ (by omega),if_neg (by show ¬ (rt.off+x.length*u.size≤rt.off+j*u.size+a∧_); omega)]
     exact hv a v ha
    ·rw [List.getElem?_append_right hjl] at hj
     obtain ⟨c,hc,hv⟩:=hmore.rep _ y hj
     refine ⟨c,hc.mono (fun _ hb=>hb) hIb (aU.le.refl _),fun a v ha=> ?_⟩
     have hql:=(List.getElem?_eq_some_iff.1 ha).1
     have hcl:=hc.length
     have hj2:j - x.length<ys.length:=(List.getElem?_eq_some_iff.1 hj).1
     have hm2:(j - x.length+1)*u.size≤ys.length*u.size:=Nat.mul_le_mul_right _ hj2
     have hm3:j*u.size=x.length*u.size+(j - x.length)*u.size:=by rw [← Nat.add_mul]; congr 1; omega
     rw [Nat.add_mul,Nat.one_mul] at hm2
     rw [dn _ _ _ (by omega),if_pos (by show rt.off+x.length*u.size≤rt.off+j*u.size+a∧rt.off+j*u.size+a<_; omega),← hv a v ha]
     congr 1
     show rt.off+j*u.size+a - (rt.off+x.length*u.size)=_
     omega
   have hf3:(bif Nat.beq f0 3 then 3 else 2:Nat)=2:=by
    cases e3:Nat.beq f0 3 with
    |true=>have:=hk3 (beq_iff.1 e3); rw [rb] at this; cases this
    |false=>rfl
   have hap:=d5.more (x:=x++ys) (y:=x) d4 g3 rb (r0:=r0) rfl rfl (by show rt.len≤x.length+ys.length; omega) (by rw [hD,hlx]; exact hf2)
   rw [hf3]
   rw [hf3] at hl1 hdat
   obtain ⟨tk',h5,h6⟩:=h3.zx hb3 g1 hpn (r0:=r0) (f0:=1) (x:=x++ys) hrr0 (fun b' hb'=>by
    have hb':some b=some b':=hb'
    cases hb'
    refine ⟨.inl howned,?_⟩
    have:=h.tys p q b g1 howned
    unfold oG at this
    rw [d1] at this
    exact this rt (List.mem_of_getElem? g3) (by rw [rb]; simp)) hl1 hdat hap
   refine ⟨_,_,tk',_,rfl,hrun,?_,⟨rfl,aA.one (t:= .rid p u) rfl h6⟩⟩
   have e5:(st.gI p ⟨.pool u,l⟩).gI p ⟨.pool u,List.set l k (2,x)++ [(1,x++ys)]⟩=st.gI p ⟨.pool u,List.set l k (2,x)++ [(1,x++ys)]⟩:=BJ st p _ _
   rw [e5] at h5
   exact h5
 ·
  have hg:rt.cap<x.length+ys.length:=by omega
  have hone:(x.length+ys.length)*1≤(x.length+ys.length)*E.B T:=Nat.mul_le_mul_left _ hB0
  have hle:(x.length+ys.length)*E.B T≤(2*(x.length+ys.length)+512)*E.B T:=Nat.mul_le_mul_right _ (by omega)
  have hby:(x.length+ys.length)*i.bytes≤(x.length+ys.length)*E.B T:=Nat.mul_le_mul_left _ hB
  have olds:∃ olds:List Value,(Builtin.firstCells u.size x.length (.slice rt.ad x.length rt.cap)).run C.P w.drew= .ok olds.toArray w.drew∧olds.length=x.length*u.size∧
    ∀ j y,x[j]?=some y→∃ c,ai w I tk u y c∧∀ q v,c[q]?=some v→olds[j*u.size+q]?=some v:=by
   rcases r3 with ⟨_,h0⟩|⟨b,rb,rad,hown⟩
   ·have hl0:x= []:=List.eq_nil_of_length_eq_zero (by omega)
    subst hl0
    refine ⟨[],?_,by simp,by simp⟩
    cases rt.ad<;>simp [Builtin.firstCells,loadCells,loadCellsFrom]
   ·obtain ⟨cs,hblk,hrm,hel⟩:=hown
    obtain ⟨olds,q1,q2,q3,q4⟩:=uR (mh hpl) (w:=w) (I:=I) (tk:=tk) (l:=x) (f:=fun j=>cs[rt.off+j]?) (fun j y hj=>by
     obtain ⟨c,hc,hv⟩:=hel j y hj
     exact ⟨c,hc,fun q v hq=>by rw [← Nat.add_assoc]; exact hv q v hq⟩)
    rw [rad]
    refine ⟨olds,run_firstCells_some w.drew u.size x.length _ _ _ olds q1 (fun j v hj=> ?_),q1,q4⟩
    rw [addr_add]
    exact (cell_of_heap (w:=w) (w':=w.drew) rfl _).trans (by rw [hblk.cell]; exact q2 j v hj)
  obtain ⟨olds,q1,q2,q3⟩:=olds
  have hrun:=y5 (P:=C.P) (ty:=ty) w hue hi hz hu2 hsos (ad:=rt.ad) (len:=x.length) (cap:=rt.cap) hmore.len (by rw [hsz]; exact hfc w.drew rfl) (by rw [hsz]; exact q1) hg (by omega) (growslice_fits hg (by omega))
  have hge:=grownCap_ge w (x.length+ys.length) rt.cap et
  generalize hcp:grownCap w (x.length+ys.length) rt.cap et=cp at hrun hge
  have hG:lg w (w.drew.alloc (.cells (olds.toArray++news.toArray++Builtin.zeroCells z.cells (cp - (x.length+ys.length))) et)):=(lg.drew w).trans (lg.alloc w.drew _)
  have hblk:=Blk.alloc w.drew (olds.toArray++news.toArray++Builtin.zeroCells z.cells (cp - (x.length+ys.length))) et
  have h3:=h.grow hG
  let r0:RTk:=⟨some w.heap.size,0,some ⟨w.heap.size,0,none⟩,x.length+ys.length,cp,et⟩
  have hIb:∀ a,I a→(w.drew.alloc (.cells (olds.toArray++news.toArray++Builtin.zeroCells z.cells (cp - (x.length+ys.length))) et)).heap[a]?=w.heap[a]?:=fun a ha=>hG.block a (h.ilt a ha)
  have hrr0:kK (w.drew.alloc (.cells (olds.toArray++news.toArray++Builtin.zeroCells z.cells (cp - (x.length+ys.length))) et)) I tk r0 u (x++ys):=by
   refine ⟨by simp [r0],by simpa using hge,.inr ⟨w.heap.size,rfl,rfl,_,hblk,?_,fun j y hj=> ?_⟩⟩
   ·simp only [Array.toList_append,List.length_append,Array.length_toList,List.size_toArray,Builtin.zeroCells,Array.size_map,Array.size_range,q2,hns,hzs,← Nat.add_mul]
    show 0+cp*u.size≤_
    rw [Nat.zero_add]
    exact Nat.le_of_eq (by congr 1; omega)
   ·rcases Nat.lt_or_ge j x.length with hjl|hjl
    ·rw [List.getElem?_append_left hjl] at hj
     obtain ⟨c,hc,hv⟩:=q3 j y hj
     refine ⟨c,hc.mono (fun _ hb=>hb) hIb (aU.le.refl _),fun a v ha=> ?_⟩
     have hv':=hv a v ha
     have:=(List.getElem?_eq_some_iff.1 hv').1
     simp only [Array.toList_append,List.append_assoc]
     show (olds++_)[0+j*u.size+a]?=_
     rw [Nat.zero_add,List.getElem?_append_left (by omega)]
     exact hv'
    ·rw [List.getElem?_append_right hjl] at hj
     obtain ⟨c,hc,hv⟩:=hmore.rep _ y hj
     refine ⟨c,hc.mono (fun _ hb=>hb) hIb (aU.le.refl _),fun a v ha=> ?_⟩
     have hv':=hv a v ha
     have:=(List.getElem?_eq_some_iff.1 hv').1
     have hm3:j*u.size=x.length*u.size+(j - x.length)*u.size:=by rw [← Nat.add_mul]; congr 1; omega
     simp only [Array.toList_append,List.append_assoc]
     show (olds++_)[0+j*u.size+a]?=_
     rw [Nat.zero_add,List.getElem?_append_right (by omega),List.getElem?_append_left (by omega),← hv']
     congr 1; omega
  have nob:∀ s q2,tk s=some q2→¬ q2.own w.heap.size:=fun s q2 hs hb=>absurd (h.tokLt s q2 _ hs hb) (Nat.lt_irrefl _)
  obtain ⟨tk',h5,h6⟩:=h3.zx hbp g1 hpn (r0:=r0) (f0:=1) (x:=x++ys) hrr0 (fun b' hb'=>by
   have hb':some w.heap.size=some b':=hb'
   cases hb'
   exact ⟨.inr ⟨.inl h.size,by simp,fun hI=>absurd (h.ilt _ hI) (Nat.lt_irrefl _),fun s q2 _ hs=>nob s q2 hs⟩,hA⟩) hl1 hdat (hdn.snoc (by rw [hl1]; exact d4) (fun h=>by cases h) fun b r hb hr hb'=>by
    have hb:some w.heap.size=some b:=hb
    cases hb
    exact nob p q g1 (.inr ⟨r,hr,hb'⟩))
  exact ⟨_,_,tk',_,rfl,hrun,h5,⟨rfl,aA.one (t:= .rid p u) rfl h6⟩⟩
theorem xC {T T2 ty:TypeId} {s1:SV} {v1 v2:Value} {dst:Option Nat} {u:Ty} {ys:List u.den} (hE:eD C.P E) (hV:View sv st) (h:Inv C st tm w I tk) (hd:∀ d,dst=some d→d<st.sl.length) (h1:bf w I tk s1 v1)
  (hM:u.known=true→E.T T=some (.sl u.frz)→ys.length*E.B T≤70368744177664→∃ news,Bw C.P w I tk u ys T T2 ty v2 news) (hf:zw E dst T s1 sv u ys=some (true,e)):
  ∃ v w' tk' s,e.v=some s∧(Builtin.append_ #[T,T2] ty #[v1,v2]).run C.P w= .ok v w'∧Inv C (aN e.ps st) tm w' I tk'∧bf w' I tk' s v:=by
 unfold zw at hf
 ·
  have fin:∀ {t:Ty} {nl:Bool} {l:List t.den} {av:List Nat} {ps:List Pm} {tk1:aU} {ad:Option Addr} {cap:Nat},Inv C (aN ps st) tm w I tk1→(∀ s,s∉av→tk1 s=tk s)→v1= .slice ad l.length cap→(nl=true↔ad=none)→l.length≤cap→
    (t.bL=false→(∀ s,s∈mentions t→tk1 s=tk s)→EL C w I tk1 ad cap t l)→uH E dst T u ys t nl l av ps=some (true,e)→
    ∃ v w' tk' s,e.v=some s∧(Builtin.append_ #[T,T2] ty #[v1,v2]).run C.P w= .ok v w'∧Inv C (aN e.ps st) tm w' I tk'∧bf w' I tk' s v:=by
   intro t nl l av ps tk1 ad cap h3 htk e1 hnl hcap hr ha
   unfold uH at ha
   split at ha
   ·rename_i hut
    subst hut
    cases hT:(E.isT T (.sl u.frz)&&QT dst av u) with
    |false=>rw [hT] at ha; cases ha
    |true=>
    rw [hT] at ha
    simp only [Bool.and_eq_true] at hT
    obtain ⟨hT,hap⟩:=hT
    obtain ⟨hfp,hk,htop,hno,hav⟩:=OM hap
    have hmt:∀ s,s∈mentions u→tk1 s=tk s:=fun s hs=>htk s fun hm=>hav s hm hs
    simp only [cond_true] at ha
    obtain ⟨e',he',hq⟩:=Option.map_eq_some_iff.1 ha
    simp only [Prod.mk.injEq,decide_eq_true_eq] at hq
    obtain ⟨hbig,rfl⟩:=hq
    subst e1
    unfold Ag at he'
    split at he'
    ·rename_i d
     cases he'
     obtain ⟨news,hmore⟩:=hM hk (Eg hT) (Nat.le_trans (Nat.mul_le_mul_right _ (by omega)) hbig)
     obtain ⟨v,w',tk',g1,g2,g3⟩:=Hl (T:=T) (T2:=T2) (ty:=ty) hE h3 (d:=d) (by rw [dm]; exact hd d rfl) hk hfp htop (hno d rfl) (Eg hT) (hmore.toks hmt) hnl hcap (hr htop hmt) hbig
     exact ⟨v,w',tk',_,rfl,g1,by rw [dD]; exact g2,g3⟩
    ·cases he'
   ·cases ha
  have dropT:∀ {g:Nat} s,s∉ [g]→tk.drop g s=tk s:=fun s hs=>qA fun e=>hs (by rw [e]; simp)
  split at hf
  ·rename_i g t0
   split at hf
   ·rename_i t l hb
    obtain ⟨q,g1,g2,rfl⟩:=h1
    obtain ⟨q',g3,g4⟩:=h.boxes _ _ (hV.box _ _ hb)
    rw [g1] at g3; cases g3
    obtain ⟨k1,hp,k2,k3,k4,k5⟩:=g4
    obtain ⟨h3,h4⟩:=h.giveUp g1
    refine fin h3 dropT (by unfold Tk.hdr; rw [k2]) k4 k3 (fun htop hmt=> ?_) hf
    rcases k5 with ⟨_,k5⟩|⟨b,k5,k6,k7⟩
    ·exact .inl k5
    ·obtain ⟨m1,m2,m3,m4⟩:=h4 b (.inl k5)
     have hty:=h.tys g q b g1 (.inl k5)
     unfold oG at hty
     rw [k1] at hty
     exact .inr ⟨b,q.off,q.tid,k6,k7.congr hmt,m1,m2,m3,m4,hty⟩
   ·cases hf
  ·rename_i g t0 lo n
   split at hf
   ·rename_i t l hb
    obtain ⟨q,g1,g2⟩:=h1
    obtain ⟨q',g3,g4⟩:=h.boxes _ _ (hV.box _ _ hb)
    rw [g1] at g3; cases g3
    obtain ⟨k1,hp,k2,k3,k4,k5⟩:=g4
    obtain ⟨h3,h4⟩:=h.giveUp g1
    rcases g2 with ⟨_,hty,⟨hl1,hl2⟩,ad',rfl,ha,hn⟩|⟨b,off,m,hat,_⟩
    ·have hlen:((l.2.drop lo).take n).length=n:=by simp; omega
     have ht0:t0=t.frz:=by rw [k1] at hty; cases hty; rfl
     subst ht0
     refine fin h3 dropT (by rw [hlen]) (ad:=ad') (cap:=q.cap - lo) ?_ (by rw [hlen]; omega) (fun htop hmt=> ?_) hf
     ·rw [hn,← k4]
      constructor
      ·intro h5; simp only [Bool.and_eq_true] at h5; exact h5.1
      ·intro h5
       have hz:=k4.1 h5
       rcases k5 with ⟨_,k5⟩|⟨b,k5,k6,k7⟩
       ·rw [h5]; simp only [Bool.true_and,decide_eq_true_eq]; omega
       ·rw [hz] at k6; cases k6
     ·rcases k5 with ⟨_,k5⟩|⟨b,k5,k6,k7⟩
      ·exact .inl (by omega)
      ·obtain ⟨m1,m2,m3,m4⟩:=h4 b (.inl k5)
       have hty:=h.tys g q b g1 (.inl k5)
       unfold oG at hty
       rw [k1] at hty
       by_cases hlo:lo<q.cap
       ·exact .inr ⟨b,q.off+lo*t.size,q.tid,by rw [ha hlo,k6,Ty.fA]; simp [addr_add],(k7.congr hmt).part (by omega),m1,m2,m3,m4,hty⟩
       ·exact .inl (by omega)
    ·exfalso
     obtain ⟨o,_,e2,_⟩:=Tk.ol (by rw [k1]; rfl) hat
     rw [k1,fK] at e2
     cases e2
   ·cases hf
  ·split at hf
   ·rename_i t hT
    have e1:v1= .slice none 0 0:=h1
    cases hp:decide (u.frz=t) with
    |false=>rw [hp] at hf; cases hf
    |true=>
    rw [hp] at hf
    exact fin (ps:= []) (av:= []) (ad:=none) (cap:=0) (l:= []) h (fun _ _=>rfl) e1 (by simp) (Nat.le_refl _) (fun _ _=> .inl rfl) hf
   ·cases hf
  ·cases hf
theorem Hg {T T2 ty:TypeId} {s1 s2:SV} {v1 v2:Value} {dst:Option Nat} (hE:eD C.P E) (hV:View sv st) (h:Inv C st tm w I tk) (hd:∀ d,dst=some d→d<st.sl.length) (h1:bf w I tk s1 v1) (h2:bf w I tk s2 v2)
  (hT2:(∃ t,E.T T2=some (.sl t))∨E.T T2=some .str) (hf:xB E dst T s1 s2 sv=some (true,e)):
  ∃ v w' tk' s,e.v=some s∧(Builtin.append_ #[T,T2] ty #[v1,v2]).run C.P w= .ok v w'∧Inv C (aN e.ps st) tm w' I tk'∧bf w' I tk' s v:=by
 obtain ⟨u2,hu2,hsos⟩:∃ u2,C.P.underlying T2=some u2∧lJ u2:=by
  rcases hT2 with ⟨t,e1⟩|e1
  ·obtain ⟨_,e2,hu,_⟩:=hE.ty T2 _ e1; exact ⟨_,hu,.inl ⟨_,rfl⟩⟩
  ·obtain ⟨_,hu⟩:=hE.ty T2 _ e1; exact ⟨_,hu,.inr rfl⟩
 unfold xB at hf
 split at hf
 ·rename_i u ys hys
  split at hf
  ·exact Ez hE hV h h1 h2 hys hu2 hsos hf
  ·exact xC hE hV h hd h1 (fun hk _ _=>(vR (P:=C.P) hV h hk h2 hys).imp fun _ hm=>hm.x hu2 hsos) hf
 ·cases hf
theorem Ew {T T2 ty:TypeId} {s1:SV} {v1:Value} {dst:Option Nat} {k k2:IntKind} {n:Int} (hE:eD C.P E) (hV:View sv st) (h:Inv C st tm w I tk) (hd:∀ d,dst=some d→d<st.sl.length) (h1:bf w I tk s1 v1)
  (hT2:E.T T2=some (.int k2)) (hf:Ey E dst T s1 n sv=some (true,e)):
  ∃ v w' tk' s,e.v=some s∧(Builtin.append_ #[T,T2] ty #[v1,.int k n]).run C.P w= .ok v w'∧Inv C (aN e.ps st) tm w' I tk'∧bf w' I tk' s v:=by
 unfold Ey at hf
 split at hf
 ·rename_i t hT
  cases hp:t.plain with
  |false=>rw [hp] at hf; cases hf
  |true=>
  rw [hp,cond_true] at hf
  obtain ⟨r,hr,e1⟩:=Option.map_eq_some_iff.1 hf
  obtain ⟨c,e'⟩:=r
  simp only [Prod.mk.injEq,Bool.and_eq_true,decide_eq_true_eq] at e1
  obtain ⟨⟨h0,rfl⟩,rfl⟩:=e1
  obtain ⟨_,et,hue,hA0⟩:=hE.ty T _ hT
  have hA:fO C.P et t:=hA0
  obtain ⟨i,z,hi,_⟩:=kD hA hp
  obtain ⟨_,hB0⟩:=hE.bytes T et i hue (by rw [hT]; rfl) hi
  have h2:=hE.ty T2 _ hT2
  exact xC hE hV h hd h1 (fun _ _ hb=>PI hue hA hp h2.2 h0 (by
   rw [List.length_replicate] at hb
   exact Nat.le_trans (Nat.le_mul_of_pos_right _ hB0) hb)) hr
 ·cases hf
end Go.Own
set_option linter.unusedVariables false
namespace Go.Own
variable {C:Cx} {P:Program} {E:Env} {w w' w2:World} {I I':Nat→Prop} {st sv:St} {tm:Array Value} {tk tk':aU} {ds:List Deferred} {o:Oper} {e:Ef}
theorem FQ {α:Type} (l:List α) (lo:Nat) (ys:List α) (h:lo+ys.length≤l.length) (k:Nat):(over l lo ys)[k]?=if lo≤k∧k<lo+ys.length then ys[k - lo]? else l[k]?:=by
 unfold over
 rw [List.append_assoc]
 by_cases h1:k<lo
 ·rw [List.getElem?_append_left (by simp; omega),if_neg (by omega),List.getElem?_take_of_lt h1]
 ·rw [List.getElem?_append_right (by simp; omega)]
  have e:(l.take lo).length=lo:=by simp; omega
  rw [e]
  by_cases h2:k<lo+ys.length
  ·rw [List.getElem?_append_left (by omega),if_pos (by omega)]
  ·rw [List.getElem?_append_right (by omega),if_neg (by omega),List.getElem?_drop]; congr 1; omega
theorem ug {α:Type} (l:List α) (lo:Nat) (ys:List α) (h:lo+ys.length≤l.length):(over l lo ys).length=l.length:=by
 unfold over; simp; omega
theorem FP {α:Type} (l:List α) (lo:Nat):over l lo []=l:=by unfold over; simp
theorem jc.over {b o cap:Nat} {e:TypeId} {t:Ty} {l:List t.den} (hr:jc w I tk b e o cap t l) (hI:¬ I b) {lo:Nat} {ys:List t.den} {news:List Value} (hlc:l.length≤cap) (hl:lo+ys.length≤l.length) (hlen:news.length=ys.length*t.size) (hone:∀ v∈news,v.oneCell'=true)
  (hrep:∀ i y,ys[i]?=some y→∃ c,ai w I tk t y c∧∀ j v,c[j]?=some v→news[i*t.size+j]?=some v):
  (storeCells ⟨b,o+lo*t.size,none⟩ news 0).run P w= .ok () (w.setCells b (o+lo*t.size) news)∧jc (w.setCells b (o+lo*t.size) news) I tk b e o cap t (Go.Own.over l lo ys):=by
 obtain ⟨cs,h1,h2,h3⟩:=hr
 have hm:(lo+ys.length)*t.size≤cap*t.size:=Nat.mul_le_mul_right _ (by omega)
 rw [Nat.add_mul] at hm
 have hW:=Wrote.cells b news (o+lo*t.size) w
 have hb:∀ k,I k→(w.setCells b (o+lo*t.size) news).heap[k]?=w.heap[k]?:=fun k hk=>hW.other k (by rintro rfl; exact hI hk)
 have hroom:o+lo*t.size+news.length≤cs.length:=by omega
 refine ⟨?_,splice cs (o+lo*t.size) news,h1.setCells hroom,by rw [iH _ _ _ hroom]; exact h2,fun i x hx=> ?_⟩
 ·exact run_storeCells_cells (P:=P) b (o+lo*t.size) news 0 w (fun j hj=>by rw [h1.cell,List.getElem?_eq_getElem (by omega)]; rfl) (fun j hj=>h1.frozen _ (by omega)) hone
 ·rw [FQ _ _ _ hl] at hx
  split at hx
  ·rename_i hi
   obtain ⟨c,hc,hv⟩:=hrep _ x hx
   refine ⟨c,hc.mono (fun _ hb=>hb) hb (aU.le.refl _),fun j v hj=> ?_⟩
   have hjl:=(List.getElem?_eq_some_iff.1 hj).1
   have hcl:=hc.length
   have hm2:(i - lo+1)*t.size≤ys.length*t.size:=Nat.mul_le_mul_right _ (by omega)
   have hm3:i*t.size=lo*t.size+(i - lo)*t.size:=by rw [← Nat.add_mul]; congr 1; omega
   rw [Nat.add_mul,Nat.one_mul] at hm2
   rw [dn _ _ _ hroom,if_pos (by omega),← hv j v hj]
   congr 1; omega
  ·rename_i hi
   obtain ⟨c,hc,hv⟩:=h3 i x hx
   refine ⟨c,hc.mono (fun _ hb=>hb) hb (aU.le.refl _),fun j v hj=> ?_⟩
   have hjl:=(List.getElem?_eq_some_iff.1 hj).1
   have hcl:=hc.length
   rw [dn _ _ _ hroom,if_neg,hv j v hj]
   rintro ⟨q1,q2⟩
   rcases Nat.lt_or_ge i lo with h5|h5
   ·have:=Nat.mul_le_mul_right t.size (show i+1≤lo by omega)
    rw [Nat.add_mul,Nat.one_mul] at this; omega
   ·have:=Nat.mul_le_mul_right t.size (show lo+ys.length≤i by omega)
    rw [Nat.add_mul] at this; omega
theorem OJ {t:Ty} {m:Nat} {l:List t.den} {c:List Value} (hr:ai w I tk (.arr m t) l c) {lo:Nat} {ys:List t.den} {news:List Value} (hl:lo+ys.length≤m) (hlen:news.length=ys.length*t.size)
  (hrep:∀ i y,ys[i]?=some y→∃ c,ai w I tk t y c∧∀ j v,c[j]?=some v→news[i*t.size+j]?=some v):ai w I tk (.arr m t) (over l lo ys) (splice c (lo*t.size) news):=by
 obtain ⟨h1,h2,h3⟩:=hr
 have h1':l.length=m:=h1
 have hm:(lo+ys.length)*t.size≤m*t.size:=Nat.mul_le_mul_right _ hl
 rw [Nat.add_mul] at hm
 have hroom:lo*t.size+news.length≤c.length:=by omega
 refine ⟨by rw [ug _ _ _ (by omega)]; exact h1,by rw [iH _ _ _ hroom]; exact h2,fun i x hx=> ?_⟩
 rw [FQ _ _ _ (by omega)] at hx
 split at hx
 ·rename_i hi
  obtain ⟨c',hc,hv⟩:=hrep _ x hx
  have hcl:=hc.length
  have:((splice c (lo*t.size) news).drop (i*t.size)).take t.size=c':=by
   apply gK
   intro k
   rw [dI]
   split
   ·rename_i hk
    have hm2:(i - lo+1)*t.size≤ys.length*t.size:=Nat.mul_le_mul_right _ (by omega)
    have hm3:i*t.size=lo*t.size+(i - lo)*t.size:=by rw [← Nat.add_mul]; congr 1; omega
    rw [Nat.add_mul,Nat.one_mul] at hm2
    rw [dn _ _ _ hroom,if_pos (by omega),List.getElem?_eq_getElem (by omega:k<c'.length),← hv k _ (List.getElem?_eq_getElem (by omega))]
    congr 1; omega
   ·rw [List.getElem?_eq_none (by omega)]
  rw [this]; exact hc
 ·rename_i hi
  have:((splice c (lo*t.size) news).drop (i*t.size)).take t.size=(c.drop (i*t.size)).take t.size:=by
   apply gK
   intro k
   rw [dI,dI]
   split
   ·rename_i hk
    rw [dn _ _ _ hroom,if_neg]
    rintro ⟨q1,q2⟩
    rcases Nat.lt_or_ge i lo with h5|h5
    ·have:=Nat.mul_le_mul_right t.size (show i+1≤lo by omega)
     rw [Nat.add_mul,Nat.one_mul] at this; omega
    ·have:=Nat.mul_le_mul_right t.size (show lo+ys.length≤i by omega)
     rw [Nat.add_mul] at this; omega
   ·rfl
  rw [this]; exact h3 i x hx
theorem BG (cs:List Value) (off n a:Nat) (news:List Value) (h1:off+n≤cs.length) (h2:a+news.length≤n):splice cs off (splice ((cs.drop off).take n) a news)=splice cs (off+a) news:=by
 have hs:((cs.drop off).take n).length=n:=by simp; omega
 apply gK
 intro k
 have e:(splice ((cs.drop off).take n) a news).length=n:=by rw [iH _ _ _ (by omega),hs]
 rw [dn _ _ _ (by omega),dn _ _ _ (by omega),e]
 by_cases h3:off≤k∧k<off+n
 ·rw [if_pos h3,dn _ _ _ (by omega)]
  by_cases h4:off+a≤k∧k<off+a+news.length
  ·rw [if_pos h4,if_pos (by omega)]; congr 1; omega
  ·rw [if_neg h4,if_neg (by omega),dI,if_pos (by omega)]; congr 1; omega
 ·rw [if_neg h3,dn _ _ _ (by omega),if_neg (by omega)]
theorem z8 (hV:View sv st) (h:Inv C st tm w I tk) {x:SV} {v:Value} {u:Ty} {ysf:Nat→List u.den} {n:Nat} {ps:List Pm} (hx:bf w I tk x v) (ho:Ct sv x u ysf=some (n,ps)) (hp:u.plain=true) {news:List Value}
  (hys:(ysf n).length≤n) (hlen:news.length=(ysf n).length*u.size) (hone:∀ v∈news,v.oneCell'=true) (hrep:∀ i y,(ysf n)[i]?=some y→∃ c,ai w I tk u y c∧∀ j v,c[j]?=some v→news[i*u.size+j]?=some v):
  ∃ ad cap w',v= .slice ad n cap∧(∀ a,ad=some a→(storeCells a news 0).run C.P w= .ok () w')∧(ad=none→w'=w)∧Inv C (aN ps st) tm w' I tk:=by
 have none_news:ysf n= []→news= []:=fun h0=>List.eq_nil_of_length_eq_zero (by rw [hlen,h0]; simp)
 have dyn:∀ {g lo:Nat} {q:Tk} {l:Bool×List u.den} {ad:Option Addr},tk g=some q→st.box g=some ⟨.dyn u,l⟩→lo+(ysf n).length≤l.2.length→(lo<q.cap→ad=q.ad.map (·.add (lo*u.size)))→(ad=none↔q.ad=none)→
   ∃ w',(∀ a,ad=some a→(storeCells a news 0).run C.P w= .ok () w')∧(ad=none→w'=w)∧Inv C (st.gI g ⟨.dyn u,(l.1,over l.2 lo (ysf n))⟩) tm w' I tk:=by
  intro g lo q l ad h1 hb hl ha hn
  obtain ⟨q',h2,h3⟩:=h.boxes g _ hb
  rw [h1] at h2; cases h2
  obtain ⟨k1,k2,k3,k4,k5,k6⟩:=h3
  rcases k6 with ⟨k6,k7⟩|⟨b,k6,k7,k8⟩
  ·have h0:ysf n= []:=List.eq_nil_of_length_eq_zero (by omega)
   rw [none_news h0,h0,FP]
   refine ⟨w,fun a _=>by simp [storeCells],fun _=>rfl,h.wz hb h1 ?_⟩
   exact ⟨k1,k2,k3,k4,k5,.inl ⟨k6,k7⟩⟩
  ·by_cases hlo:lo<q.cap
   ·have ead:ad=some ⟨b,q.off+lo*u.size,none⟩:=by rw [ha hlo,k7]; simp [addr_add]
    obtain ⟨g1,g2⟩:=k8.over (P:=C.P) (h.tokI g q b h1 (.inl k6)) k4 hl hlen hone hrep
    refine ⟨_,fun a e=>by rw [ead] at e; cases e; exact g1,fun e=>(by rw [ead] at e; cases e),h.qY hb h1 (.inl k6) (Wrote.cells _ _ _ _) ?_⟩
    refine ⟨k1,k2,?_,?_,k5,.inr ⟨b,k6,k7,g2⟩⟩
    ·show q.len=(over l.2 lo (ysf n)).length; rw [ug _ _ _ hl]; exact k3
    ·show (over l.2 lo (ysf n)).length≤q.cap; rw [ug _ _ _ hl]; exact k4
   ·have h0:ysf n= []:=List.eq_nil_of_length_eq_zero (by omega)
    rw [none_news h0,h0,FP]
    refine ⟨w,fun a _=>by simp [storeCells],fun _=>rfl,h.wz hb h1 ?_⟩
    exact ⟨k1,k2,k3,k4,k5,.inr ⟨b,k6,k7,k8⟩⟩
 unfold Ct at ho
 split at ho
 ·rename_i g t
  split at ho
  ·rename_i t' l hb
   split at ho
   ·rename_i hut
    subst hut
    cases ho
    have hb':=hV.box _ _ hb
    obtain ⟨q,h1,h2,rfl⟩:=hx
    obtain ⟨q',h3,h4⟩:=h.boxes _ _ hb'
    rw [h1] at h3; cases h3
    obtain ⟨k1,k2,k3,_⟩:=h4
    obtain ⟨w',g1,g2,g3⟩:=dyn (lo:=0) (ad:=q.ad) h1 hb' (by omega) (fun _=>by cases q.ad<;>simp [Addr.add]) Iff.rfl
    exact ⟨q.ad,q.cap,w',by unfold Tk.hdr; rw [k3],g1,g2,g3⟩
   ·cases ho
  ·cases ho
 ·rename_i g t pa lo n0
  split at ho
  ·rename_i d hb
   have hb':=hV.box _ _ hb
   obtain ⟨q,hq,hvs⟩:=hx
   obtain ⟨q',h3,h4⟩:=h.boxes _ _ hb'
   rw [hq] at h3; cases h3
   split at ho
   ·rename_i t' l hg
    split at ho
    ·rename_i hut
     subst hut
     cases pa with
     |cons=>cases ho
     |nil=>
     simp only [List.isEmpty_nil,cond_true,Option.some.injEq,Prod.mk.injEq] at ho
     obtain ⟨rfl,rfl⟩:=ho
     have hyd:d=⟨.dyn u,l⟩:=by
      have:some d=some ⟨.dyn u,l⟩:=by rw [← hg]; obtain ⟨dt,dx⟩:=d; cases dt<;>rfl
      exact Option.some.inj this
     subst hyd
     obtain ⟨k1,k2,k3,_⟩:=h4
     rcases hvs with ⟨_,hty,⟨hl1,hl2⟩,ad',rfl,ha,hn⟩|⟨b,off,m0,hat,_⟩
     ·have ht:t=u:=by rw [k1,Ty.eZ hp] at hty; cases hty; rfl
      subst ht
      obtain ⟨w',g1,g2,g3⟩:=dyn (lo:=lo) (ad:=ad') hq hb' (by omega) ha hn
      exact ⟨ad',_,w',rfl,g1,g2,g3⟩
     ·exfalso
      obtain ⟨o,_,e2,_⟩:=Tk.ol (by rw [k1]; rfl) hat
      rw [k1,fK] at e2
      cases e2
    ·cases ho
   ·rename_i m t' l hg
    split at ho
    ·rename_i hut
     subst hut
     cases hpo:d.1.fD with
     |true=>rw [hpo] at ho; cases ho
     |false=>
     rw [hpo] at ho
     simp only [cond_false] at ho
     have hnp:=h4.np hpo
     obtain ⟨z,hz,e⟩:=Option.map_eq_some_iff.1 ho
     simp only [Prod.mk.injEq] at e
     obtain ⟨rfl,rfl⟩:=e
     rcases hvs with ⟨rfl,hty,_⟩|⟨b,off,m0,hat,hin,hl,ad',rfl,ha⟩
     ·exfalso
      have hyd:d=⟨.arr m u,l⟩:=by
       have:some d=some ⟨.arr m u,l⟩:=by rw [← hg]; obtain ⟨dt,dx⟩:=d; cases dt<;>rfl
       exact Option.some.inj this
      subst hyd
      obtain ⟨g1,_⟩:=(aI.str (t:= .arr _ _) (x:=l) rfl).1 h4
      rw [hty] at g1; cases g1
     ·obtain ⟨o,g1,g2,rfl⟩:=Tk.ol hnp hat
      rw [Tk.oL hnp] at hin
      obtain ⟨off,cs,f1,f2,f3,f4⟩:=Ju h4 g1 hg hin rfl
      rw [g2] at f1
      simp only [Ty.frz,Option.some.injEq,Prod.mk.injEq,Ty.arr.injEq] at f1
      obtain ⟨rfl,rfl,ht0⟩:=f1
      rw [Ty.eZ hp] at ht0
      subst ht0
      have hm:(lo+(ysf n0).length)*t.size≤m0*t.size:=Nat.mul_le_mul_right _ (by omega)
      rw [Nat.add_mul] at hm
      have hroom:(Ty.arr m0 t).size=m0*t.size:=rfl
      rw [hroom] at f3
      have hc:=OJ f4 (lo:=lo) (ys:=ysf n0) (by omega) hlen hrep
      have hI:=h.tokI g q b hq (.inl g1)
      obtain ⟨hnew,_⟩:=G5 (x:=⟨.arr m0 t,over l lo (ysf n0)⟩) (w':=w.setCells b (q.off+o+lo*t.size) news) h4 g1 hz hin (by rw [g2]; show some (o,Ty.arr m0 t)=some (o,Ty.arr m0 t.frz); rw [Ty.eZ hp]) rfl (mh hp) hc hI (Wrote.cells b news (q.off+o+lo*t.size) w) (fun cs' h5 h6=>by
       obtain ⟨_,rfl⟩:=f2.same h5
       rw [BG _ _ _ _ _ (by rw [hroom]; omega) (by rw [hroom]; omega)]
       exact f2.setCells (by omega))
      refine ⟨some ad',_,_,rfl,fun a e=> ?_,fun e=>(by cases e),h.qY hb' hq (.inl g1) (Wrote.cells _ _ _ _) hnew⟩
      cases e
      by_cases hlo:lo<m0
      ·rw [ha hlo]
       exact run_storeCells_cells (P:=C.P) b (q.off+o+lo*t.size) news 0 w (fun j hj=>by rw [f2.cell,List.getElem?_eq_getElem (by omega)]; rfl) (fun j hj=>f2.frozen _ (by omega)) hone
      ·have h0:ysf n0= []:=List.eq_nil_of_length_eq_zero (by omega)
       rw [none_news h0]
       rfl
    ·cases ho
   ·cases ho
  ·cases ho
 ·cases ho
theorem LV {T T2 ty:TypeId} {s1 s2:SV} {v1 v2:Value} {u:Ty} {ys:List u.den} {n:Nat} {ps:List Pm} (hE:eD C.P E) (hV:View sv st) (h:Inv C st tm w I tk) (h1:bf w I tk s1 v1) (h2:bf w I tk s2 v2)
  (hT:E.isT T (.sl u)=true) (hp:u.plain=true) (hm:xX E sv T2 s2=some ⟨u,ys⟩) (ho:Ct sv s1 u (fun n=>ys.take n)=some (n,ps)):
  ∃ w',(Builtin.copy_ #[T,T2] ty #[v1,v2]).run C.P w= .ok (goInt ((min n ys.length:Nat):Int)) w'∧Inv C (aN ps st) tm w' I tk:=by
 obtain ⟨news,hmore⟩:=vR (P:=C.P) hV h (mh hp) h2 hm
 obtain ⟨_,e,hue,hA0⟩:=hE.ty T _ (Eg hT)
 have hA:fO C.P e u:=hA0
 obtain ⟨i,z,hi,hz,hzc,hsz,hzs⟩:=kD hA hp
 have hns:=hmore.size
 have hml:(min n ys.length)*u.size≤ys.length*u.size:=Nat.mul_le_mul_right _ (Nat.min_le_right _ _)
 have hfl:=hmore.cellsK (min n ys.length) (Nat.min_le_right _ _) w rfl
 have htl:(ys.take n).length=min n ys.length:=List.length_take
 obtain ⟨ad,cap,w',rfl,g1,g2,g3⟩:=z8 (news:=news.take ((min n ys.length)*u.size)) hV h h1 ho hp (by simp; omega) (by rw [List.length_take,htl]; omega) (fun v hv=>hmore.one v (List.mem_of_mem_take hv)) (fun j y hj=>by
  rw [List.getElem?_take] at hj
  split at hj
  ·rename_i hjn
   obtain ⟨c,hc,hv⟩:=hmore.rep j y hj
   refine ⟨c,hc,fun k v hk=> ?_⟩
   have hjl:=(List.getElem?_eq_some_iff.1 hj).1
   have hkl:=(List.getElem?_eq_some_iff.1 hk).1
   have hcl:=hc.length
   have hm2:(j+1)*u.size≤(min n ys.length)*u.size:=Nat.mul_le_mul_right _ (by omega)
   rw [Nat.add_mul,Nat.one_mul] at hm2
   rw [List.getElem?_take_of_lt (by omega)]
   exact hv k v hk
  ·cases hj)
 refine ⟨w',?_,g3⟩
 have hmin:Nat.min ys.length n=min n ys.length:=Nat.min_comm _ _
 cases ad with
 |none=>
  have:=g2 rfl
  subst this
  simp [Builtin.copy_,run_underlying hue,hmore.len,sizeOf,typeInfo,hi,hsz,hmin,hfl]
 |some a=>
  have:=g1 a rfl
  simp [Builtin.copy_,run_underlying hue,hmore.len,sizeOf,typeInfo,hi,hsz,hmin,hfl,this]
theorem Jq {T ty:TypeId} {s1:SV} {v1:Value} {u:Ty} {n:Nat} {ps:List Pm} (hE:eD C.P E) (hV:View sv st) (h:Inv C st tm w I tk) (h1:bf w I tk s1 v1)
  (hT:E.T T=some (.sl u)) (hp:u.plain=true) (ho:Ct sv s1 u (fun n=>List.replicate n u.dflt)=some (n,ps)):
  ∃ w',(Builtin.clear_ #[T] ty #[v1]).run C.P w= .ok (.tuple #[]) w'∧Inv C (aN ps st) tm w' I tk:=by
 obtain ⟨_,e,hue,hA0⟩:=hE.ty T _ hT
 have hA:fO C.P e u:=hA0
 obtain ⟨i,z,hi,hz,hzc,hsz,hzs⟩:=kD hA hp
 have hzl:=RO hp
 have hlen:(Builtin.zeroCells z.cells n).toList.length=n*u.size:=by simp [Builtin.zeroCells,hzs]
 obtain ⟨ad,cap,w',rfl,g1,g2,g3⟩:=z8 (news:=(Builtin.zeroCells z.cells n).toList) hV h h1 ho hp (by simp) (by rw [hlen]; simp) (fun v hv=>by
  obtain ⟨k,hk⟩:=List.mem_iff_getElem?.1 hv
  have hkl:=(List.getElem?_eq_some_iff.1 hk).1
  rw [hlen] at hkl
  have hu:0<z.cells.size:=by
   rw [hzs]
   rcases Nat.eq_zero_or_pos u.size with h0|h0
   ·rw [h0] at hkl; omega
   ·exact h0
  rw [uN _ _ _ hu (by rw [hzs]; exact hkl)] at hk
  exact BS hp v (by rw [← hzc]; exact Array.mem_toList_iff.2 (Array.mem_of_getElem? hk))) (fun j y hj=>by
  rw [List.getElem?_replicate] at hj
  split at hj
  ·rename_i hjn
   cases hj
   refine ⟨u.fJ,dZ hp,fun k v hk=> ?_⟩
   have hkl:=(List.getElem?_eq_some_iff.1 hk).1
   have hm:(j+1)*u.size≤n*u.size:=Nat.mul_le_mul_right _ (by omega)
   rw [Nat.add_mul,Nat.one_mul] at hm
   rw [uN _ _ _ (by omega) (by rw [hzs]; omega),hzs,Nat.mul_comm,Nat.mul_add_mod,Nat.mod_eq_of_lt (by omega),← hk,← hzc]
   simp
  ·cases hj)
 refine ⟨w',?_,g3⟩
 cases ad with
 |none=>
  have:=g2 rfl
  subst this
  simp [Builtin.clear_,run_underlying hue]
 |some a=>
  have hr:=g1 a rfl
  cases n with
  |zero=>
   have:(Builtin.zeroCells z.cells 0).toList= []:=by simp [Builtin.zeroCells]
   rw [this] at hr
   simp only [storeCells,Sem.run_pure,Result.ok.injEq,true_and] at hr
   subst hr
   simp [Builtin.clear_,run_underlying hue]
  |succ n=>
   simp [Builtin.clear_,run_underlying hue,zeroValue,typeInfo,hi,hz,hr]
theorem Qh {t:Ty} {n:Nat} {l:List t.den} {cs:List Value} (hl:l.length=n) (hc:cs.length=n*t.size) (h4:∀ i x,l[i]?=some x→∃ c,ai w I tk t x c∧∀ j v,c[j]?=some v→cs[i*t.size+j]?=some v):ai w I tk (.arr n t) l cs:=by
 refine ⟨hl,hc,fun i x hx=> ?_⟩
 obtain ⟨c,hc1,hv⟩:=h4 i x hx
 have hcl:=hc1.length
 have hi:=(List.getElem?_eq_some_iff.1 hx).1
 have hm:(i+1)*t.size≤n*t.size:=Nat.mul_le_mul_right _ (by omega)
 rw [Nat.add_mul,Nat.one_mul] at hm
 have:(cs.drop (i*t.size)).take t.size=c:=by
  apply gK
  intro k
  rw [dI]
  split
  ·rename_i hk
   rw [List.getElem?_eq_getElem (by omega:k<c.length)]
   exact hv k _ (List.getElem?_eq_getElem _)
  ·rw [List.getElem?_eq_none (by omega)]
 rw [this]; exact hc1
theorem Ns {T:TypeId} {x:Operand} (hE:eD C.P E) (hV:View sv st) (h:Inv C st tm w I tk) (hd:∀ d,o.dst=some d→d<st.sl.length) (ho:o.op= .sliceToArrayPointer T x) (hf:opP E o sv=some (true,e)):
  aV C o ds (e.run o.dst st) tm w:=by
 have hx:=fe (ds:=ds) hV h x
 simp only [opP,ho] at hf
 split at hf
 ·rename_i n u hT
  cases hq:(Nat.ble 1 n&&u.size != 0) with
  |false=>rw [hq] at hf; cases hf
  |true=>
  rw [hq] at hf
  simp only [cond_true] at hf
  simp only [Bool.and_eq_true,bne_iff_ne,ne_eq] at hq
  obtain ⟨hn1,hu0⟩:=hq
  have hn1:=Nat.le_of_ble_eq_true hn1
  obtain ⟨r,hr,e1⟩:=Option.map_eq_some_iff.1 hf
  simp only [Prod.mk.injEq] at e1
  obtain ⟨hc,rfl⟩:=e1
  obtain ⟨c,r⟩:=r
  dsimp only at hc
  subst hc
  obtain ⟨_,e,hu,hA0⟩:=hE.ty T _ hT
  have fin:∀ {ad:Option Addr} {len cap:Nat},Act.eval ⟨tm,ds⟩ x= .slice ad len cap→n≤len→bf w I tk r (.pointer ad)→aV C o ds (Ef.run o.dst ⟨[],some r⟩ st) tm w:=by
   intro ad len cap e1 hl hs
   refine aV.v (x:= .pointer ad) h hd ?_ hs
   have:¬ len<n:=by omega
   simp [execOp,ho,e1,Instr.arrayAt,run_underlying hu,this]
  unfold OL at hr
  split at hr
  ·rename_i t l e1
   rw [e1] at hx
   cases htu:decide (t=u) with
   |false=>rw [htu] at hr; cases hr
   |true=>
   rw [htu] at hr
   simp only [cond_true,Option.some.injEq,Prod.mk.injEq,decide_eq_true_eq] at hr
   obtain ⟨hnl,rfl⟩:=hr
   have hv:=hx.p
   simp only [aA,Ty.isAgg,Bool.false_eq_true,if_false,ai,List.cons.injEq,and_true] at hv
   obtain ⟨ad,cap,e2,hcap,hv⟩:=hv
   rcases hv with rfl|⟨hp,b,o0,rfl,hI,hel⟩
   ·simp at hnl; omega
   ·refine fin e2 hnl ?_
    obtain ⟨cs,q1,q2,q3,q4⟩:=uR (mh hp) (w:=w) (I:=I) (tk:=tk) (l:=l.take n) (f:=fun j=>w.cell? ⟨b,o0+j,none⟩) (fun j y hj=>by
     rw [List.getElem?_take] at hj
     split at hj
     ·obtain ⟨c,hc,hv⟩:=hel j y hj
      exact ⟨c,hc,fun q v hq=>by rw [← Nat.add_assoc]; exact hv q v hq⟩
     ·cases hj)
    have hlen:(l.take n).length=n:=by simp; omega
    refine bf.of1 ⟨hp,?_⟩
    unfold aA
    rw [if_neg (by simp [Ty.isAgg])]
    exact ⟨hp,b,o0,cs,rfl,hI,Qh hlen (by rw [q1,hlen]) q4,fun j v hj=>q2 j v hj⟩
  ·rename_i s t pa lo k e1
   rw [e1] at hx
   cases htu:(decide (t=u)&&KO sv s pa) with
   |false=>rw [htu] at hr; cases hr
   |true=>
   rw [htu] at hr
   simp only [cond_true,Option.some.injEq,Prod.mk.injEq,decide_eq_true_eq] at hr
   simp only [Bool.and_eq_true,decide_eq_true_eq] at htu
   obtain ⟨rfl,hok⟩:=htu
   obtain ⟨hnk,rfl⟩:=hr
   obtain ⟨q,hq,hvs⟩:=hx
   rcases hvs with ⟨rfl,hty,⟨hl1,hl2⟩,ad',e2,ha,hn⟩|⟨b,off,m0,hat,hin,hl,ad',e2,ha⟩
   ·simp only [KO] at hok
    split at hok
    ·rename_i t' l' hb
     obtain ⟨q',h3,h4⟩:=h.boxes _ _ (hV.box _ _ hb)
     rw [hq] at h3; cases h3
     obtain ⟨k1,k2,k3,k4,k5,k6⟩:=h4
     rcases k6 with ⟨_,k6⟩|⟨b,k6,k7,_⟩
     ·omega
     ·refine fin e2 hnk ?_
      rw [ha (by omega),k7]
      have hnp:q.ty.fD=false:=by rw [hty]; rfl
      refine bf.of1 ⟨q,b,q.off+(lo*t.size+0),hq,Tk.KA hnp k6 (by rw [hty]; rfl),by rw [Tk.oL hnp,hty]; exact ⟨by omega,trivial⟩,by simp [addr_add]⟩
    ·rename_i n0 t0 x hb
     obtain ⟨q',hq',hd⟩:=h.boxes _ _ (hV.box _ _ hb)
     rw [hq] at hq'; cases hq'
     have h1:q.ty=(Ty.arr n0 t0).frz:=hd.1
     rw [hty] at h1; cases h1
    ·cases hok
   ·refine fin e2 hnk ?_
    rw [ha (by omega)]
    exact bf.of1 ⟨q,b,off+(lo*t.size+0),hq,Tk.yD hat (by rfl),Tk.vN hat hin fun n=>⟨by omega,trivial⟩,by rw [Nat.add_zero]⟩
  ·cases hr
 ·cases hf
end Go.Own
set_option linter.unusedVariables false
namespace Go.Own
variable {C:Cx} {P:Program} {E:Env} {w w' w2:World} {I I':Nat→Prop} {st sv:St} {tm:Array Value} {tk tk':aU} {ds:List Deferred} {o:Oper} {e:Ef}
end Go.Own
