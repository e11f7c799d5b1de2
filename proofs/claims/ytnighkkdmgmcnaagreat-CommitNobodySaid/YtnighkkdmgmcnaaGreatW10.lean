/- What is proved: the evaluator of the translated code, and that it is sound, part 10. Conditions: those that each theorem names. -/
import Derived.Test.YtnighkkdmgmcnaaGreatW9
import Derived.MapKept
set_option linter.unusedVariables false
set_option linter.unusedSimpArgs false
set_option linter.unusedVariables false
namespace Go.Own
variable {C:Cx} {P:Program} {E:Env} {w w' w2:World} {I I':Nat→Prop} {st sv:St} {tm:Array Value} {tk tk':aP} {ds:List Deferred} {o:Oper} {e:Ef}
theorem N7 (a b:ByteArray):(a== b)=true↔a=b:=by
 obtain ⟨a⟩:=a
 obtain ⟨b⟩:=b
 constructor
 ·intro h
  have:(a== b)=true:=h
  rw [eq_of_beq this]
 ·intro h
  cases h
  show (a== a)=true
  exact beq_self_eq_true a
theorem NJ:∀ {t:Ty},t.qC=true→∀ x y:t.den,∃ r,eqT t x y=some r∧(r=true↔x=y):=by
 intro t
 induction t with
 |pair a b iha ihb=>
  intro h x y
  simp only [Ty.qC,Bool.and_eq_true] at h
  obtain ⟨r1,h1,h2⟩:=iha h.1 x.1 y.1
  obtain ⟨r2,h3,h4⟩:=ihb h.2 x.2 y.2
  refine ⟨r1&&r2,by simp only [eqT,h1,h3],?_⟩
  simp only [Bool.and_eq_true,h2,h4]
  exact ⟨fun h=>Prod.ext h.1 h.2,fun h=>by rw [h]; exact ⟨rfl,rfl⟩⟩
 |int k=>intro _ x y; exact ⟨_,rfl,by simp⟩
 |bool=>intro _ x y; exact ⟨_,rfl,by simp⟩
 |str=>intro _ x y; exact ⟨_,rfl,N7 x y⟩
 |unit=>intro _ x y; exact ⟨true,rfl,by simp⟩
 |eos u=>intro _ x y; exact ⟨true,rfl,by simp⟩
 |_=>intro h; cases h
theorem Qd {t:Ty} (h:t.qC=true) (x y:t.den):eqK t x y=true↔x=y:=by
 obtain ⟨r,h1,h2⟩:=NJ h x y
 unfold eqK
 rw [h1]
 exact h2
theorem NK {t:Ty} (h:t.qC=true) (x y:t.den):eqT t x y=some (eqK t x y):=by
 obtain ⟨r,h1,h2⟩:=NJ h x y
 unfold eqK
 rw [h1]; rfl
theorem Ce:∀ {t:Ty} {x:t.den} {c1 c2:List Value},t.qC=true→ai w I tk t x c1→ai w I tk t x c2→c1=c2:=by
 intro t
 induction t with
 |pair a b iha ihb=>
  intro x c1 c2 h h1 h2
  simp only [Ty.qC,Bool.and_eq_true] at h
  obtain ⟨a1,b1,rfl,h3,h4⟩:=h1
  obtain ⟨a2,b2,rfl,h5,h6⟩:=h2
  rw [iha h.1 h3 h5,ihb h.2 h4 h6]
 |int k=>intro x c1 c2 _ h1 h2; exact h1.trans h2.symm
 |bool=>intro x c1 c2 _ h1 h2; exact h1.trans h2.symm
 |str=>intro x c1 c2 _ h1 h2; exact h1.trans h2.symm
 |unit=>intro x c1 c2 _ h1 h2; exact h1.trans h2.symm
 |eos u=>intro x c1 c2 _ h1 h2; exact h1.trans h2.symm
 |_=>intro x c1 c2 h; cases h
theorem PX {t:Ty} {x:t.den} {v1 v2:Value} (h:t.qC=true) (h1:aA w I tk t x v1) (h2:aA w I tk t x v2):v1=v2:=by
 unfold aA at h1 h2
 split at h1
 ·rename_i ha
  rw [if_pos ha] at h2
  obtain ⟨a,rfl,h1⟩:=h1
  obtain ⟨b,rfl,h2⟩:=h2
  have:=Ce h h1 h2
  rw [Array.toList_inj] at this
  rw [this]
 ·rename_i ha
  rw [if_neg ha] at h2
  have:=Ce h h1 h2
  simpa using this
def JO:Value→Bool
 | .int _ _=>true
 | .bool _=>true
 | .string _=>true
 |_=>false
theorem FV:∀ {t:Ty} {x:t.den} {c:List Value},t.qC=true→ai w I tk t x c→∀ v∈c,JO v=true:=by
 intro t
 induction t with
 |pair a b iha ihb=>
  intro x c h h1 v hv
  simp only [Ty.qC,Bool.and_eq_true] at h
  obtain ⟨a1,b1,rfl,h3,h4⟩:=h1
  rcases List.mem_append.1 hv with hv|hv
  ·exact iha h.1 h3 v hv
  ·exact ihb h.2 h4 v hv
 |int k=>intro x c _ h1 v hv; have:c=_:=h1; rw [this] at hv; simp at hv; rw [hv]; rfl
 |bool=>intro x c _ h1 v hv; have:c=_:=h1; rw [this] at hv; simp at hv; rw [hv]; rfl
 |str=>intro x c _ h1 v hv; have:c=_:=h1; rw [this] at hv; simp at hv; rw [hv]; rfl
 |unit=>intro x c _ h1 v hv; have:c=_:=h1; rw [this] at hv; simp at hv
 |eos u=>intro x c _ h1 v hv; have:c=_:=h1; rw [this] at hv; simp at hv
 |_=>intro x c h; cases h
theorem BG (n:Nat) {v:Value} (h:JO v=true):Instr.sameBits n v v=true:=by
 cases v<;>first|cases h; done|(cases n<;>simp [Instr.sameBits,N7])
theorem Md {t:Ty} {x:t.den} {v:Value} (h:t.qC=true) (h1:aA w I tk t x v):Instr.sameBits 10000 v v=true:=by
 unfold aA at h1
 split at h1
 ·obtain ⟨a,rfl,h1⟩:=h1
  have hc:=FV h h1
  have:∀ d:Nat,Instr.sameBits (d+1) (.agg a) (.agg a)=true:=by
   intro d
   simp only [Instr.sameBits,beq_self_eq_true,Bool.true_and]
   refine List.all_eq_true.2 fun p hp=> ?_
   obtain ⟨i,hi⟩:=List.mem_iff_getElem?.1 hp
   rw [List.getElem?_zip_eq_some] at hi
   obtain ⟨h2,h3⟩:=hi
   rw [h2] at h3
   simp only [Option.some.injEq] at h3
   rw [← h3]
   exact BG d (hc _ (List.mem_of_getElem? h2))
  exact this 9999
 ·have:=FV h h1 v (by simp)
  exact BG _ this
theorem Ng {t:Ty} {x:t.den} {v:Value} (h:t.qC=true) (h1:aA w I tk t x v):(Instr.keyThatStays v v).run P w'= .ok v w':=by
 unfold Instr.keyThatStays
 rw [Md h h1]
 rfl
def ckF (em:Bool) (d:Nat) (cs:Array Value) (f:Field) (_:PUnit):Sem (ForInStep PUnit):=
 if f.name≠ "_" then (do let v ← part f.type cs f.offset; Instr.checkKey em d f.type v; pure (.yield PUnit.unit)) else pure (.yield PUnit.unit)
theorem wH (em:Bool):∀ {t:Ty},t.qC=true→(∀ (T:TypeId) (d:Nat) (v:Value) (x:t.den),dF P T t→t.lev≤d→aA w I tk t x v→(Instr.checkKey em d T v).run P w= .ok () w)∧
  (∀ (fs:List Field) (off d:Nat) (cs:Array Value) (x:t.den),dM P fs off t→t.lev≤d+1→ai w I tk t x (cs.toList.drop off)→
   (forIn fs PUnit.unit (ckF em d cs):Sem PUnit).run P w= .ok () w):=by
 intro t
 induction t with
 |int k=>
  intro _
  refine ⟨fun T d v x h hd h1=> ?_,fun fs off d cs x h=>by cases h⟩
  cases d with
  |zero=>simp [Ty.lev] at hd
  |succ d=>rw [kC] at h1; subst h1; simp [Instr.checkKey,run_underlying h.2]
 |bool=>
  intro _
  refine ⟨fun T d v x h hd h1=> ?_,fun fs off d cs x h=>by cases h⟩
  cases d with
  |zero=>simp [Ty.lev] at hd
  |succ d=>rw [jw] at h1; subst h1; simp [Instr.checkKey,run_underlying h.2]
 |str=>
  intro _
  refine ⟨fun T d v x h hd h1=> ?_,fun fs off d cs x h=>by cases h⟩
  cases d with
  |zero=>simp [Ty.lev] at hd
  |succ d=>rw [lD] at h1; subst h1; simp [Instr.checkKey,run_underlying h.2]
 |eos u=>
  intro _
  refine ⟨fun T d v x h=>h.elim,fun fs off d cs x h _ _=> ?_⟩
  have:fs= []:=h
  subst this
  simp
 |unit=>
  intro _
  refine ⟨fun T d v x h hd h1=> ?_,fun fs off d cs x h _ _=> ?_⟩
  ·obtain ⟨_,hp,fs,hu,hfs⟩:=h
   unfold aA at h1
   simp only [Ty.isAgg,if_true] at h1
   obtain ⟨as,rfl,h1⟩:=h1
   cases d with
   |zero=>simp [Ty.lev] at hd
   |succ d=>
    have:fs= #[]:=Array.toList_eq_nil_iff.1 hfs
    subst this
    simp [Instr.checkKey,run_underlying hu]
  ·have:fs= []:=h
   subst this
   simp
 |pair a b iha ihb=>
  intro hk
  simp only [Ty.qC,Bool.and_eq_true] at hk
  have hf:∀ (f:Field) (rs:List Field) (off d:Nat) (cs:Array Value) (x:(Ty.pair a b).den),f.offset=off→dF P f.type a→dM P rs (off+a.size) b→(Ty.pair a b).lev≤d+1→
    ai w I tk (.pair a b) x (cs.toList.drop off)→
    (forIn (f::rs) PUnit.unit (ckF em d cs):Sem PUnit).run P w= .ok () w:=by
   intro f rs off d cs x ho h1 h2 hd hx
   simp only [Ty.lev] at hd
   obtain ⟨c1,c2,e1,hx1,hx2⟩:=hx
   have l1:=hx1.length
   have t1:(cs.toList.drop off).take a.size=c1:=by rw [e1,← l1]; simp
   have t2:cs.toList.drop (off+a.size)=c2:=by rw [← List.drop_drop,e1,← l1]; simp
   obtain ⟨v1,hv1,hr1⟩:=o8 (t:=a) (h1.frz.symm ▸ h1) cs off x.1 w (by rw [t1]; exact hx1)
   have e3:=(iha hk.1).1 f.type d v1 x.1 h1 (by omega) hr1
   have e4:=(ihb hk.2).2 rs (off+a.size) d cs x.2 h2 (by omega) (by rw [t2]; exact hx2)
   rw [List.forIn_cons,Sem.run_bind]
   have hone:(ckF em d cs f PUnit.unit).run P w= .ok (.yield ()) w:=by
    unfold ckF
    by_cases hn:f.name≠ "_"
    ·simp only [if_pos hn,Sem.run_bind,ho,hv1,Result.andThen_ok,e3,Sem.run_pure]
    ·simp only [if_neg hn,Sem.run_pure]
   rw [hone]
   exact e4
  refine ⟨fun T d v x h hd h1=> ?_,fun fs off d cs x h hd hx=> ?_⟩
  ·obtain ⟨_,hp,_,fs,hu,hnm,f,rs,hfs,ho,hF1,hF2⟩:=h
   unfold aA at h1
   simp only [Ty.isAgg,if_true] at h1
   obtain ⟨as,rfl,h1⟩:=h1
   cases d with
   |zero=>simp only [Ty.lev] at hd; omega
   |succ d=>
    have:=hf f rs 0 d as x ho hF1 (by simpa [dM] using hF2) hd (by simpa using h1)
    rw [← hfs] at this
    simp only [Instr.checkKey,Sem.run_bind,run_underlying hu,Result.andThen_ok]
    rw [Array.forIn_toList] at this
    unfold ckF at this
    rw [this]
    rfl
  ·obtain ⟨f,rs,rfl,ho,hF1,hF2⟩:=h
   exact hf f rs off d cs x ho hF1 hF2 hd hx
 |_=>intro h; cases h
end Go.Own
set_option linter.unusedVariables false
namespace Go.Own
variable {C:Cx} {P:Program} {E:Env} {w w' w2:World} {I I':Nat→Prop} {st sv:St} {tm:Array Value} {tk tk':aP} {ds:List Deferred} {o:Oper} {e:Ef}
def foundAt (es:List MapEntry) (i:Nat) (r:Option Nat):Option (Nat×Value):=r.bind fun j=>(es[j]?).map fun e=>(i+j,e.val)
theorem wB (e:MapEntry) (es:List MapEntry) (i:Nat) (r:Option Nat):foundAt (e::es) i (r.map (· +1))=foundAt es (i+1) r:=by
 unfold foundAt
 cases r with
 |none=>rfl
 |some j=>
  simp only [Option.map_some,Option.bind_some,List.getElem?_cons_succ]
  congr 1
  funext x
  rw [show i+(j+1)=i+1+j by omega]
section
variable {k v:Ty} {kt:TypeId} {key:k.den} {kv:Value}
theorem I7 (hmk:k.qC=true) (hA:dF P kt k) (hlev:k.lev≤10000) (hkv:aA w I tk k key kv):∀ (es:List MapEntry) (l:List (k.den×v.den)) (i:Nat),es.length=l.length→
  (∀ (j:Nat) (e:MapEntry) (p:k.den×v.den),es[j]?=some e→l[j]?=some p→aA w I tk k p.1 e.key)→(Instr.findAsking kt kv es i).run P w= .ok (foundAt es i (kY k v key l)) w:=by
 intro es
 induction es with
 |nil=>
  intro l i hl _
  cases l with
  |nil=>simp [Instr.findAsking,kY,foundAt]
  |cons=>cases hl
 |cons e es ih=>
  intro l i hl hr
  cases l with
  |nil=>cases hl
  |cons p l=>
   have hp:=hr 0 e p rfl rfl
   have hq:=NH.1 kt 10000 kv e.key key p.1 _ hA hlev hkv hp (NK hmk key p.1)
   have ht:=ih l (i+1) (by simpa using hl) (fun j e' p' h1 h2=>hr (j+1) e' p' (by simpa using h1) (by simpa using h2))
   simp only [Instr.findAsking,Op.equal,Op.maxDepth,Sem.run_bind,hq,Result.andThen_ok,kY]
   cases hb:eqK k key p.1 with
   |true=>simp [foundAt]
   |false=>
    simp only [Bool.false_eq_true,if_false,cond_false]
    rw [ht,wB]
theorem Pz {kind:TypeDesc}:∀ (es:List MapEntry) (l:List (k.den×v.den)) (i:Nat),es.length=l.length→
  (∀ (j:Nat) (e:MapEntry) (p:k.den×v.den),es[j]?=some e→l[j]?=some p→Instr.sameNow kind kv e.key=some (eqK k key p.1))→Instr.findNow kind kv es i=some (foundAt es i (kY k v key l)):=by
 intro es
 induction es with
 |nil=>
  intro l i hl _
  cases l with
  |nil=>simp [Instr.findNow,kY,foundAt]
  |cons=>cases hl
 |cons e es ih=>
  intro l i hl hr
  cases l with
  |nil=>cases hl
  |cons p l=>
   have hp:=hr 0 e p rfl rfl
   have ht:=ih l (i+1) (by simpa using hl) (fun j e' p' h1 h2=>hr (j+1) e' p' (by simpa using h1) (by simpa using h2))
   simp only [Instr.findNow,hp,kY]
   cases hb:eqK k key p.1 with
   |true=>simp [foundAt]
   |false=>simp only [cond_false]; rw [ht,wB]
theorem Gg (hmk:k.qC=true) (hA:dF P kt k) (hlev:k.lev≤10000) (hkv:aA w I tk k key kv) (es:List MapEntry) (l:List (k.den×v.den)) (hl:es.length=l.length)
  (hr:∀ (j:Nat) (e:MapEntry) (p:k.den×v.den),es[j]?=some e→l[j]?=some p→aA w I tk k p.1 e.key):(Instr.findKey kt kv es).run P w= .ok (foundAt es 0 (kY k v key l)) w:=by
 have simple:∀ {kind:TypeDesc},P.underlying kt=some kind→(∀ (j:Nat) (e:MapEntry) (p:k.den×v.den),es[j]?=some e→l[j]?=some p→Instr.sameNow kind kv e.key=some (eqK k key p.1))→(Instr.findKey kt kv es).run P w= .ok (foundAt es 0 (kY k v key l)) w:=by
  intro kind hu hs
  simp only [Instr.findKey,Sem.run_bind,run_underlying hu,Result.andThen_ok,Pz es l 0 hl hs,Sem.run_pure]
 have hard:∀ {fs:Array Field},P.underlying kt=some (.struct fs)→(Instr.findKey kt kv es).run P w= .ok (foundAt es 0 (kY k v key l)) w:=by
  intro fs hu
  have ha:=I7 (v:=v) hmk hA hlev hkv es l 0 hl hr
  simp only [Instr.findKey,Sem.run_bind,run_underlying hu,Result.andThen_ok]
  cases es with
  |nil=>
   cases l with
   |nil=>simp [Instr.findNow,kY,foundAt]
   |cons=>cases hl
  |cons e es=>
   have hn:Instr.sameNow (.struct fs) kv e.key=none:=by cases kv<;>cases e.key<;>rfl
   simp only [Instr.findNow,hn]
   exact ha
 cases k<;>simp only [Ty.qC,Bool.false_eq_true] at hmk
 case int kk=>
  rw [kC] at hkv; subst hkv
  refine simple hA.2 fun j e p h1 h2=> ?_
  have:=hr j e p h1 h2
  rw [kC] at this
  rw [this]
  simp only [Instr.sameNow,if_true,eqK,eqT,Option.getD_some]
  rfl
 case bool=>
  rw [jw] at hkv; subst hkv
  refine simple hA.2 fun j e p h1 h2=> ?_
  have:=hr j e p h1 h2
  rw [jw] at this
  rw [this]
  rfl
 case str=>
  rw [lD] at hkv; subst hkv
  refine simple hA.2 fun j e p h1 h2=> ?_
  have:=hr j e p h1 h2
  rw [lD] at this
  rw [this]
  rfl
 case unit=>obtain ⟨_,_,fs,hu,_⟩:=hA; exact hard hu
 case eos u=>exact hA.elim
 case pair a b=>obtain ⟨_,_,_,fs,hu,_⟩:=hA; exact hard hu
theorem FE {l:List (k.den×v.den)} (h:kY k v key l=none):qD k v key l=none:=by unfold qD; rw [h]
theorem FD {l:List (k.den×v.den)} {i:Nat} (h:kY k v key l=some i):qD k v key l=(l[i]?).map (·.2):=by unfold qD; rw [h]
theorem FB {x:v.den} {l:List (k.den×v.den)} (h:kY k v key l=none):vg k v key x l=l++ [(key,x)]:=by unfold vg; rw [h]
theorem Fz {x:v.den} {l:List (k.den×v.den)} {i:Nat} (h:kY k v key l=some i):vg k v key x l=l.set i (key,x):=by unfold vg; rw [h]
theorem Lx {T:TypeId} {t:Ty} {z:Value} (hA:dF P T t) (hp:t.plain=true) (hz:(zeroValue T).run P w= .ok z w):aA w I tk t t.dflt z:=by
 obtain ⟨i,z',h1,h2,h3⟩:=hA.base.zero
 have hag:=hA.base.agg i z' h1 h2
 have e:z'=z:=by
  have:(zeroValue T).run P w= .ok z' w:=by simp [zeroValue,typeInfo,h1,h2]
  rw [this] at hz
  simpa using hz
 subst e
 have hc:ai w I tk t t.dflt z'.cells.toList:=by rw [h3]; exact dG hp
 unfold aA
 split
 ·rename_i ha
  rw [ha] at hag
  cases z'<;>first|(cases hag; done)|exact ⟨_,rfl,hc⟩
 ·rename_i ha
  have ha':t.isAgg=false:=by simpa using ha
  rw [ha'] at hag
  cases z'<;>first|(cases hag; done)|exact hc
theorem FC:∀ {l:List (k.den×v.den)} {i:Nat},kY k v key l=some i→∃ p,l[i]?=some p∧eqK k key p.1=true:=by
 intro l
 induction l with
 |nil=>intro i h; cases h
 |cons p l ih=>
  intro i h
  simp only [kY] at h
  cases hb:eqK k key p.1 with
  |true=>rw [hb] at h; cases h; exact ⟨p,rfl,hb⟩
  |false=>
   rw [hb] at h
   obtain ⟨j,hj,rfl⟩:=Option.map_eq_some_iff.1 h
   exact ih hj
end
theorem HV {T:TypeId} (hE:dN C.P E) (hV:View sv st) (h:Inv C st tm w I tk) (hd:∀ d,o.dst=some d→d<st.sl.length) (ho:o.op= .makeMap T none) (hf:opP E o sv=some (true,e)):
  aK C o ds (e.run o.dst st) tm w:=by
 simp only [opP,ho] at hf
 split at hf
 ·rename_i s0 k v d hT hod
  cases hq:(k.qC&&k.plain&&v.plain) with
  |false=>rw [hq] at hf; cases hf
  |true=>
  rw [hq] at hf
  simp only [cond_true,Option.some.injEq,Prod.mk.injEq,true_and] at hf; subst hf
  simp only [Bool.and_eq_true] at hq
  have hdl:=hd d hod
  have hr:aF (w.alloc (.map #[] 0)) I tk ⟨some w.heap.size,0,none,0,0,.map k v,T,[]⟩ ⟨.map k v,[]⟩:=by
   refine ⟨rfl,w.heap.size,rfl,#[],0,?_,hq.1.1,hq.1.2,hq.2,rfl,fun i e p he=>by simp at he⟩
   simp only [World.alloc,Array.getElem?_push_size]
  have hi:=h.newAt hdl (x:=⟨.map k v,[]⟩) List.not_mem_nil (q:=⟨some w.heap.size,0,none,0,0,.map k v,T,[]⟩) rfl rfl trivial hr
  have hs:aT (w.alloc (.map #[] 0)) I (tk.upd d ⟨some w.heap.size,0,none,0,0,.map k v,T,[]⟩) (.mp d k v) (.map (some w.heap.size)):=⟨_,w.heap.size,upd_same _ _ _,rfl,rfl,rfl⟩
  rw [hod]
  have:=aK.of (C:=C) (o:=o) (ds:=ds) (ps:=jM d ⟨.map k v,[]⟩) (v:= .mp d k v) (x:= .map (some w.heap.size)) (w:=w) (w':=w.alloc (.map #[] 0)) (by
   simp [execOp,ho,Instr.makeMap]) hi (fun d' hd'=>by rw [bL]; exact hd d' hd') hs
  rwa [hod] at this
 ·cases hf
theorem JN {k v:Ty} {s:Nat}:k.lev≤(Ty.mp s k v).lev:=by simp only [Ty.lev]; omega
theorem KJ {T:TypeId} {x i:Operand} {ok:Bool} (hE:dN C.P E) (hV:View sv st) (h:Inv C st tm w I tk) (hd:∀ d,o.dst=some d→d<st.sl.length) (ho:o.op= .lookup T x i ok) (hf:opP E o sv=some (true,e)):
  aK C o ds (e.run o.dst st) tm w:=by
 have hx:=dm (ds:=ds) hV h x
 have hi:=dm (ds:=ds) hV h i
 simp only [opP,ho] at hf
 split at hf
 ·rename_i s k1 v1 k' key s2 k2 v2 e1 e2 hT
  rw [e1] at hx; rw [e2] at hi
  split at hf
  ·rename_i k v l hb
   split at hf
   ·rename_i hk
    subst hk
    split at hf
    ·rename_i hkv
     obtain ⟨rfl,rfl⟩:=hkv
     obtain ⟨_,_,kt,vt,hu,hA1,hA2⟩:=hE.ty T _ hT
     have hA1':dF C.P kt k2:=hA1
     have hA2':dF C.P vt v2:=hA2
     have hlev:k2.lev≤10000:=Nat.le_trans (Nat.le_trans JN (hE.lev T _ hT)) (by omega)
     obtain ⟨q,b,g1,g2,g3,e3⟩:=hx
     obtain ⟨q',g4,g5⟩:=h.boxes _ _ (hV.box _ _ hb)
     rw [g1] at g4; cases g4
     obtain ⟨_,b',g6,es,clock,g7,hmk,hkp,hvp,hlen,hrep⟩:=g5
     rw [g3] at g6; cases g6
     have hget:=MapKept.run_getObj_map (P:=C.P) g7
     have hck:=(wH es.isEmpty hmk).1 kt 10000 _ key hA1' hlev hi.p
     have hfi:=Gg hmk hA1' hlev hi.p es.toList l (by simpa using hlen) (fun j e p h1 h2=>(hrep j e p (by simpa using h1) h2).1)
     obtain ⟨z,hz,hzc⟩:=Eg hA2' w
     have hzr:aA w I tk v2 v2.dflt z:=Lx hA2' hvp hz
     have key2:∃ u bb,(Instr.lookup T (.map (some b)) (Act.eval ⟨tm,ds⟩ i) ok).run C.P w= .ok (if ok then .tuple #[u,.bool bb] else u) w∧aA w I tk v2 ((qD k2 v2 key l).getD v2.dflt) u∧bb=(qD k2 v2 key l).isSome:=by
      cases hix:kY k2 v2 key l with
      |none=>
       rw [FE hix]
       refine ⟨z,false,?_,hzr,rfl⟩
       rw [hix] at hfi
       simp [Instr.lookup,run_underlying hu,hget,hck,hfi,foundAt,hz,Result.andThen]
      |some j=>
       obtain ⟨p,hp,_⟩:=FC hix
       have hj:=(List.getElem?_eq_some_iff.1 hp).1
       have hje:es[j]?=some es[j]:=Array.getElem?_eq_getElem (by omega)
       rw [FD hix]
       refine ⟨es[j].val,true,?_,by rw [hp]; exact (hrep j _ p hje hp).2,by rw [hp]; rfl⟩
       rw [hix] at hfi
       have:foundAt es.toList 0 (some j)=some (j,es[j].val):=by simp [foundAt,hje]
       rw [this] at hfi
       simp [Instr.lookup,run_underlying hu,hget,hck,hfi,Result.andThen]
     obtain ⟨u,bb,r1,r2,rfl⟩:=key2
     cases ok with
     |false=>
      simp only [cond_false,Option.some.injEq,Prod.mk.injEq,true_and] at hf; subst hf
      refine aK.v (x:=u) h hd ?_ ⟨hvp,r2⟩
      simp only [execOp,ho,e3]
      rw [Sem.run_bind,r1]; rfl
     |true=>
      simp only [cond_true,Option.some.injEq,Prod.mk.injEq,true_and] at hf; subst hf
      refine aK.v (x:= .tuple #[u,.bool (qD k2 v2 key l).isSome]) h hd ?_ ⟨_,rfl,rfl,fun j c y hc hy=> ?_⟩
      ·simp only [execOp,ho,e3]
       rw [Sem.run_bind,r1]; rfl
      ·match j with
       |0=>simp at hc hy; subst hc; subst hy; exact ⟨hvp,r2⟩
       |1=>simp at hc hy; subst hc; subst hy; exact ⟨rfl,jw.2 rfl⟩
       |j+2=>simp at hc
    ·cases hf
   ·cases hf
  ·cases hf
 ·cases hf
theorem Dl {T:TypeId} {m i x:Operand} (hE:dN C.P E) (hV:View sv st) (h:Inv C st tm w I tk) (ho:o.op= .mapUpdate T m i x) (hf:opP E o sv=some (true,e)):
  aK C o ds (e.run o.dst st) tm w:=by
 have hm:=dm (ds:=ds) hV h m
 have hi:=dm (ds:=ds) hV h i
 have hx:=dm (ds:=ds) hV h x
 simp only [opP,ho] at hf
 split at hf
 ·rename_i s k1 v1 k' key s2 k2 u e1 e2 hT hod
  rw [e1] at hm; rw [e2] at hi
  split at hf
  ·rename_i fs v' y hdf
   split at hf
   ·rename_i k v l hb
    split at hf
    ·rename_i hk
     subst hk
     split at hf
     ·rename_i hv'
      subst hv'
      cases hq:(decide (k2=k')&& !(fs.flatMap Pm.fs).any (Nat.beq s)) with
      |false=>rw [hq] at hf; cases hf
      |true=>
      rw [hq] at hf
      simp only [cond_true,Option.some.injEq,Prod.mk.injEq,true_and] at hf; subst hf
      simp only [Bool.and_eq_true,decide_eq_true_eq,Bool.not_eq_true',List.any_eq_false] at hq
      obtain ⟨rfl,hns⟩:=hq
      have hns':s∉fs.flatMap Pm.fs:=fun hm=>hns s hm (beq_iff.2 rfl)
      obtain ⟨_,_,kt,vt,hu,hA1,hA2⟩:=hE.ty T _ hT
      have hA1':dF C.P kt k2:=hA1
      have hlev:k2.lev≤10000:=Nat.le_trans (Nat.le_trans JN (hE.lev T _ hT)) (by omega)
      obtain ⟨I',tk',hF,hyp,hyr⟩:=ql hV h hx hdf
      obtain ⟨q,b,g1,g2,g3,e3⟩:=hm
      have g1':tk' s=some q:=(hF.tok s hns').trans g1
      have hb':=hF.view.box _ _ hb
      obtain ⟨q',g4,g5⟩:=hF.inv.boxes _ _ hb'
      rw [g1'] at g4; cases g4
      obtain ⟨g0,b',g6,es,clock,g7,hmk,hkp,hvp,hlen,hrep⟩:=g5
      rw [g3] at g6; cases g6
      have hget:=MapKept.run_getObj_map (P:=C.P) g7
      have hset:=fun o=>MapKept.run_setObj_map (P:=C.P) o g7
      have hi':aA w I' tk' k2 key (Act.eval ⟨tm,ds⟩ i):=by
       have:=hi.p.plain (tk':=tk') hi.1
       exact this.mono hF.mono (fun _ _=>rfl) (aP.le.refl _)
      have hck:=(wH false hmk).1 kt 10000 _ key hA1' hlev hi'
      have hfi:=Gg (v:=v') hmk hA1' hlev hi' es.toList l (by simpa using hlen) (fun j e p h1 h2=>(hrep j e p (by simpa using h1) h2).1)
      have hW:∀ ob:Obj,Wrote b w {w with heap:=w.heap.setIfInBounds b ob}:=fun ob=>⟨fun r hr=>by simp [Ne.symm hr],by simp,rfl,rfl,rfl⟩
      have hbI:¬ I' b:=hF.inv.tokI s q b g1' (.inl g3)
      have hlt:b<w.heap.size:=hF.inv.tokLt s q b g1' (.inl g3)
      have key2:∃ es' clock',(Instr.mapUpdate T (.map (some b)) (Act.eval ⟨tm,ds⟩ i) (Act.eval ⟨tm,ds⟩ x)).run C.P w= .ok () {w with heap:=w.heap.setIfInBounds b (.map es' clock')}∧es'.size=(vg k2 v' key y l).length∧
        ∀ (j:Nat) (e:MapEntry) (p:k2.den×v'.den),es'[j]?=some e→(vg k2 v' key y l)[j]?=some p→aA w I' tk' k2 p.1 e.key∧aA w I' tk' v' p.2 e.val:=by
       cases hix:kY k2 v' key l with
       |none=>
        rw [FB hix]
        rw [hix] at hfi
        refine ⟨es.push ⟨Act.eval ⟨tm,ds⟩ i,Act.eval ⟨tm,ds⟩ x,clock⟩,clock+1,?_,by simp [hlen],fun j e p h1 h2=> ?_⟩
        ·simp [Instr.mapUpdate,run_underlying hu,hget,hck,hfi,foundAt,hset,Result.andThen]
        ·rw [Array.getElem?_push] at h1
         split at h1
         ·rename_i hj
          cases h1
          rw [List.getElem?_append_right (by omega),hj,hlen] at h2
          simp only [Nat.sub_self,List.getElem?_cons_zero,Option.some.injEq] at h2
          subst h2
          exact ⟨hi',hyr⟩
         ·rename_i hj
          have hjl:=(Array.getElem?_eq_some_iff.1 h1).1
          rw [List.getElem?_append_left (by omega)] at h2
          exact hrep j e p h1 h2
       |some j0=>
        rw [Fz hix]
        obtain ⟨p0,hp0,hek⟩:=FC hix
        have hke:=(Qd hmk key p0.1).1 hek
        have hj:=(List.getElem?_eq_some_iff.1 hp0).1
        have hje:es[j0]?=some es[j0]:=Array.getElem?_eq_getElem (by omega)
        have hold:=(hrep j0 _ p0 hje hp0).1
        rw [← hke] at hold
        have hsame:=PX hmk hold hi'
        rw [hix] at hfi
        have hfo:foundAt es.toList 0 (some j0)=some (j0,es[j0].val):=by simp [foundAt,hje]
        rw [hfo] at hfi
        have hst:=Ng (P:=C.P) (w':=w) hmk hi'
        refine ⟨es.modify j0 fun e=> {e with key:=Act.eval ⟨tm,ds⟩ i,val:=Act.eval ⟨tm,ds⟩ x},clock,?_,by simp [hlen],fun j e p h1 h2=> ?_⟩
        ·simp [Instr.mapUpdate,run_underlying hu,hget,hck,hfi,hje,hsame,hst,hset,Result.andThen]
        ·rw [Array.getElem?_modify] at h1
         rw [List.getElem?_set] at h2
         split at h1
         ·rename_i hjj
          subst hjj
          rw [if_pos rfl,if_pos hj] at h2
          simp only [Option.some.injEq] at h2
          subst h2
          rw [hje] at h1
          simp only [Option.map_some,Option.some.injEq] at h1
          subst h1
          exact ⟨hi',hyr⟩
         ·rename_i hjj
          rw [if_neg hjj] at h2
          exact hrep j e p h1 h2
      obtain ⟨es',clock',r1,r2,r3⟩:=key2
      refine ⟨undef,{w with heap:=w.heap.setIfInBounds b (.map es' clock')},I',tk',.inr ⟨?_,rfl⟩,?_⟩
      ·simp only [execOp,ho,e3]
       rw [Sem.run_bind,r1]; rfl
      ·simp only [Ef.run,bU,hod,uW]
       refine hF.inv.oK hb' g1' (.inl g3) (hW _) ⟨g0,b,g3,es',clock',by simp [hlt],hmk,hkp,hvp,r2,fun j e p h1 h2=> ?_⟩
       have hm:∀ c,I' c→({w with heap:=w.heap.setIfInBounds b (.map es' clock')}:World).heap[c]?=w.heap[c]?:=fun c hc=>(hW _).other c (by rintro rfl; exact hbI hc)
       exact ⟨(r3 j e p h1 h2).1.mono (fun _ hb=>hb) hm (aP.le.refl _),(r3 j e p h1 h2).2.mono (fun _ hb=>hb) hm (aP.le.refl _)⟩
     ·cases hf
    ·cases hf
   ·cases hf
  ·cases hf
 ·cases hf
end Go.Own
set_option linter.unusedVariables false
namespace Go.Own
variable {C:Cx} {P:Program} {E:Env} {w w' w2:World} {I I':Nat→Prop} {st sv:St} {tm:Array Value} {tk tk':aP} {ds:List Deferred} {o:Oper} {e:Ef}
theorem xD {α β:Type} {f:α→β} {l:List α} {x:β} (h:l.map f= [x]):∃ a,l= [a]∧f a=x:=by
 match l,h with
 | [a],h=>exact ⟨a,rfl,by simpa using h⟩
theorem xC {α β:Type} {f:α→β} {l:List α} {x y:β} (h:l.map f= [x,y]):∃ a b,l= [a,b]∧f a=x∧f b=y:=by
 match l,h with
 | [a,b],h=>exact ⟨a,b,rfl,by simpa using h⟩
theorem BX {α β:Type} {f:α→β} {l:List α} {x:β} {r:List β} (h:l.map f=x::r):∃ a q,l=a::q∧f a=x∧q.map f=r:=by
 match l,h with
 |a::q,h=>simp only [List.map_cons,List.cons.injEq] at h; exact ⟨a,q,rfl,h⟩
theorem DU {c:Call} {b:Builtin} {ρ:Operand→Value} (ho:o.op= .call c) (hc:c.callee= .builtin b):
  (execOp ρ o).run P w=(builtin b c.argTypes o.type (c.args.map fun| .const _=>true|_=>false) (c.args.map ρ)).run P w:=by
 simp only [execOp,ho,resolve,hc,Sem.run_bind,Sem.run_pure,Result.andThen_ok,invoke]
 rfl
theorem H6 {c:Call} {b:Builtin} (hE:dN C.P E) (hV:View sv st) (h:Inv C st tm w I tk) (hd:∀ d,o.dst=some d→d<st.sl.length) (ho:o.op= .call c) (hc:c.callee= .builtin b) (hf:opP E o sv=some (true,e)):
  aK C o ds (e.run o.dst st) tm w:=by
 have hrun:=fun ρ=>DU (P:=C.P) (w:=w) (ρ:=ρ) ho hc
 simp only [opP,ho,hc] at hf
 have hargs:c.args.map (Act.eval ⟨tm,ds⟩)=(c.args.toList.map (Act.eval ⟨tm,ds⟩)).toArray:=by apply Array.ext'; simp only [Array.toList_map]
 have two:∀ {T T2:TypeId},c.argTypes.toList= [T,T2]→c.argTypes= #[T,T2]:=fun hT=>by
  have:=congrArg List.toArray hT
  simpa using this
 have maxes:∀ (mx:Bool) {a:Operand} {q:List Operand} {d:DV},maxS mx (ev sv a) (q.map (ev sv))=some d→∃ u,((q.map (Act.eval ⟨tm,ds⟩)).foldlM (bif mx then Builtin.max2 else Builtin.min2) (Act.eval ⟨tm,ds⟩ a)).run C.P w= .ok u w∧aT w I tk (.p d) u:=by
  intro mx a q d hm
  exact M9 (P:=C.P) mx _ _ _ (q.map (Act.eval ⟨tm,ds⟩)) d hm (dm (ds:=ds) hV h a) (by simp) (fun k s v h1 h2=>by
   rw [List.getElem?_map] at h1 h2
   obtain ⟨z,hz,rfl⟩:=Option.map_eq_some_iff.1 h1
   rw [hz] at h2
   simp only [Option.map_some,Option.some.injEq] at h2; subst h2
   exact dm hV h z)
 unfold Gs at hf
 split at hf
 ·
  rename_i T Ts v hT hv
  obtain ⟨a,ha,rfl⟩:=xD hv
  split at hf
  ·rename_i d hl
   simp only [Option.some.injEq,Prod.mk.injEq,true_and] at hf; subst hf
   obtain ⟨u,hu,hr⟩:=KX (R:=o.type) (Ts:=Ts) hE hV h (dm (ds:=ds) hV h a) hl
   refine aK.v h hd (x:=u) ?_ hr
   rw [hrun,hargs,ha]
   have:c.argTypes=(T::Ts).toArray:=by rw [← hT]
   simp only [builtin,this,List.map_cons,List.map_nil]
   rw [Sem.run_bind]
   rw [show (Builtin.len_ (T::Ts).toArray o.type [Act.eval ⟨tm,ds⟩ a].toArray).run C.P w= .ok u w from hu]
   rfl
  ·cases hf
 ·
  rename_i T T2 x y hT hv
  obtain ⟨a,a2,ha,rfl,rfl⟩:=xC hv
  have key:wL E o.dst T (ev sv a) (ev sv a2) sv=some (true,e)→((∃ t,E.T T2=some (.sl t))∨E.T T2=some .str)→aK C o ds (e.run o.dst st) tm w:=by
   intro hf hT2
   obtain ⟨v,w',tk',s,hev,h1,h2,h3⟩:=Gz (ty:=o.type) hE hV h hd (dm (ds:=ds) hV h a) (dm (ds:=ds) hV h a2) hT2 hf
   obtain ⟨ps,ev'⟩:=e
   simp only at hev
   subst hev
   refine aK.of (x:=v) (w':=w') ?_ h2 (fun d' hd'=>by rw [bL]; exact hd d' hd') h3
   rw [hrun,hargs,ha]
   simp only [builtin,two hT,List.map_cons,List.map_nil]
   rw [Sem.run_bind]
   rw [show (Builtin.append_ #[T,T2] o.type [Act.eval ⟨tm,ds⟩ a,Act.eval ⟨tm,ds⟩ a2].toArray).run C.P w= .ok v w' from h1]
   rfl
  split at hf
  ·rename_i t e; exact key hf (.inl ⟨t,e⟩)
  ·rename_i e; exact key hf (.inr e)
  ·rename_i k2 hT2
   split at hf
   ·rename_i k n hy
    obtain ⟨v,w',tk',s,hev,h1,h2,h3⟩:=DX (k:=k) (ty:=o.type) hE hV h hd (dm (ds:=ds) hV h a) hT2 hf
    obtain ⟨ps,ev'⟩:=e
    simp only at hev
    subst hev
    have hx:=dm (ds:=ds) hV h a2
    rw [hy] at hx
    have hx:=bN.1 hx
    refine aK.of (x:=v) (w':=w') ?_ h2 (fun d' hd'=>by rw [bL]; exact hd d' hd') h3
    rw [hrun,hargs,ha]
    simp only [builtin,two hT,List.map_cons,List.map_nil]
    rw [Sem.run_bind,hx]
    rw [show (Builtin.append_ #[T,T2] o.type [Act.eval ⟨tm,ds⟩ a,.int k n].toArray).run C.P w= .ok v w' from h1]
    rfl
   ·cases hf
  ·cases hf
 ·
  rename_i T T2 x y hT hv
  obtain ⟨a,a2,ha,rfl,rfl⟩:=xC hv
  split at hf
  ·rename_i u ys hm
   cases hq:(E.isT T (.sl u)&&u.plain) with
   |false=>rw [hq] at hf; cases hf
   |true=>
   rw [hq] at hf
   simp only [cond_true] at hf
   simp only [Bool.and_eq_true] at hq
   split at hf
   ·rename_i n ps hov
    simp only [Option.some.injEq,Prod.mk.injEq,true_and] at hf; subst hf
    obtain ⟨w',h1,h2⟩:=Lg (T2:=T2) (ty:=o.type) hE hV h (dm (ds:=ds) hV h a) (dm (ds:=ds) hV h a2) hq.1 hq.2 hm hov
    refine aK.of (x:=goInt ((min n ys.length:Nat):Int)) (w':=w') ?_ h2 (fun d' hd'=>by rw [bL]; exact hd d' hd') (bN.2 rfl)
    rw [hrun,hargs,ha]
    simp only [builtin,two hT,List.map_cons,List.map_nil]
    rw [Sem.run_bind]
    rw [show (Builtin.copy_ #[T,T2] o.type [Act.eval ⟨tm,ds⟩ a,Act.eval ⟨tm,ds⟩ a2].toArray).run C.P w=_ from h1]
    rfl
   ·cases hf
  ·cases hf
 ·
  rename_i T x hT hv
  obtain ⟨a,ha,rfl⟩:=xD hv
  split at hf
  ·rename_i u hTu hod
   cases hq:u.plain with
   |false=>rw [hq] at hf; cases hf
   |true=>
   rw [hq] at hf
   simp only [cond_true] at hf
   split at hf
   ·rename_i n ps hov
    simp only [Option.some.injEq,Prod.mk.injEq,true_and] at hf; subst hf
    obtain ⟨w',h1,h2⟩:=IX (ty:=o.type) hE hV h (dm (ds:=ds) hV h a) hTu hq hov
    refine ⟨.tuple #[],w',I,tk,.inl ?_,by rw [hod]; exact h2⟩
    rw [hrun,hargs,ha]
    have:c.argTypes= #[T]:=by
     have:=congrArg List.toArray hT
     simpa using this
    simp only [builtin,this,List.map_cons,List.map_nil]
    rw [Sem.run_bind]
    rw [show (Builtin.clear_ #[T] o.type [Act.eval ⟨tm,ds⟩ a].toArray).run C.P w=_ from h1]
    rfl
   ·cases hf
  ·cases hf
 ·
  rename_i x hv
  obtain ⟨a,ha,rfl⟩:=xD hv
  have hx:=dm (ds:=ds) hV h a
  have fin:∀ {p:Option Addr} {s:SV},(Builtin.unsafeSliceData_ c.argTypes o.type #[Act.eval ⟨tm,ds⟩ a]).run C.P w= .ok (.pointer p) w→aT w I tk s (.pointer p)→aK C o ds (Ef.run o.dst ⟨[],some s⟩ st) tm w:=by
   intro p s h1 h2
   refine aK.v (x:= .pointer p) h hd ?_ h2
   rw [hrun,hargs,ha]
   simp only [builtin,List.map_cons,List.map_nil]
   rw [Sem.run_bind]
   rw [show (Builtin.unsafeSliceData_ c.argTypes o.type [Act.eval ⟨tm,ds⟩ a].toArray).run C.P w=_ from h1]
   rfl
  split at hf
  ·rename_i s t e1
   rw [e1] at hx
   split at hf
   ·rename_i t' l hb
    simp only [Option.some.injEq,Prod.mk.injEq] at hf
    obtain ⟨hc1,rfl⟩:=hf
    obtain ⟨q,g1,g2,e2⟩:=hx
    obtain ⟨q',g3,g4⟩:=h.boxes _ _ (hV.box _ _ hb)
    rw [g1] at g3; cases g3
    obtain ⟨k1,k2,k3,k4,k5,k6⟩:=g4
    have e3:Act.eval ⟨tm,ds⟩ a= .slice q.ad q.len q.cap:=e2
    cases hl:l.1 with
    |true=>
     have hz:=k5.1 hl
     refine fin (p:=none) ?_ (aT.of1 ⟨q,g1,g2,none,rfl,fun _=>hz.symm,fun _=>rfl⟩)
     rw [e3,hz]
     exact Lib.run_unsafeSliceData_nil w _ _ _ _
    |false=>
     rw [hl] at hc1
     simp only [Bool.false_or,Bool.not_eq_true',List.isEmpty_eq_false_iff] at hc1
     have hpos:0<l.2.length:=List.length_pos_iff.2 hc1
     rcases k6 with ⟨_,k6⟩|⟨b,k6,k7,_⟩
     ·omega
     ·refine fin (p:=q.ad) ?_ (aT.of1 ⟨q,g1,g2,q.ad,rfl,fun _=>rfl,fun e=>e⟩)
      rw [e3,k7]
      exact Lib.run_unsafeSliceData_row w _ _ _ _ _ (by omega)
   ·cases hf
  ·rename_i e1
   rw [e1] at hx
   have e2:Act.eval ⟨tm,ds⟩ a= .slice none 0 0:=hx
   simp only [Option.some.injEq,Prod.mk.injEq,true_and] at hf; subst hf
   refine fin (p:=none) ?_ rfl
   rw [e2]
   exact Lib.run_unsafeSliceData_nil w _ _ _ _
  ·cases hf
 ·
  rename_i pt it x n hT hv
  obtain ⟨a,a2,ha,rfl,e2⟩:=xC hv
  have hx:=dm (ds:=ds) hV h a
  have hn:=dm (ds:=ds) hV h a2
  rw [e2] at hn
  have en:=bN.1 hn
  split at hf
  ·rename_i hTp
   split at hf
   ·rename_i s e1
    rw [e1] at hx
    split at hf
    ·rename_i l hb
     simp only [Option.some.injEq,Prod.mk.injEq,Bool.and_eq_true,decide_eq_true_eq] at hf
     obtain ⟨⟨hnl,h63⟩,rfl⟩:=hf
     obtain ⟨w',tk',h1,h2⟩:=EB (it:=it) (ty:=o.type) hE hV h hTp hx hb h63
     refine aK.of (x:= .string (bytesOf l.2)) (w':=w') ?_ h2 (fun d' hd'=>by rw [bL]; exact hd d' hd') (jd.2 rfl)
     rw [hrun,hargs,ha]
     simp only [builtin,two hT,List.map_cons,List.map_nil,en,hnl]
     rw [Sem.run_bind]
     rw [show (Builtin.unsafeString_ #[pt,it] o.type [Act.eval ⟨tm,ds⟩ a,Value.int .i64 (l.2.length:Int)].toArray).run C.P w=_ from h1]
     rfl
    ·cases hf
   ·rename_i e1
    rw [e1] at hx
    simp only [Option.some.injEq,Prod.mk.injEq,decide_eq_true_eq] at hf
    obtain ⟨hn0,rfl⟩:=hf
    have ex:Act.eval ⟨tm,ds⟩ a= .pointer none:=hx
    refine aK.v (x:= .string ByteArray.empty) h hd ?_ (jd.2 rfl)
    rw [hrun,hargs,ha]
    have:=Lib.run_unsafeString_none (P:=C.P) w pt it o.type none
    simp only [builtin,two hT,List.map_cons,List.map_nil,en,hn0,ex]
    rw [Sem.run_bind]
    rw [show (Builtin.unsafeString_ #[pt,it] o.type [Value.pointer none,Value.int .i64 0].toArray).run C.P w=_ from this]
    rfl
   ·cases hf
  ·cases hf
 ·
  rename_i v r hv
  obtain ⟨a,q,ha,rfl,rfl⟩:=BX hv
  split at hf
  ·rename_i d hm
   simp only [Option.some.injEq,Prod.mk.injEq,true_and] at hf; subst hf
   obtain ⟨u,hu,hr⟩:=maxes true hm
   refine aK.v h hd (x:=u) ?_ hr
   rw [hrun,hargs,ha]
   simp only [builtin,Builtin.max_,List.map_cons]
   rw [Sem.run_bind]
   simp only [cond_true] at hu
   rw [hu]; rfl
  ·cases hf
 ·
  rename_i v r hv
  obtain ⟨a,q,ha,rfl,rfl⟩:=BX hv
  split at hf
  ·rename_i d hm
   simp only [Option.some.injEq,Prod.mk.injEq,true_and] at hf; subst hf
   obtain ⟨u,hu,hr⟩:=maxes false hm
   refine aK.v h hd (x:=u) ?_ hr
   rw [hrun,hargs,ha]
   simp only [builtin,Builtin.min_,List.map_cons]
   rw [Sem.run_bind]
   simp only [cond_false] at hu
   rw [hu]; rfl
  ·cases hf
 ·cases hf
theorem KM (hE:dN C.P E) (hV:View sv st) (h:Inv C st tm w I tk) (hd:∀ d,o.dst=some d→d<st.sl.length) (hf:opP E o sv=some (true,e)):aK C o ds (e.run o.dst st) tm w:=by
 cases ho:o.op with
 |move x=>exact Pw hV h hd ho hf
 |assign x=>exact KL hV h hd ho hf
 |pick c a b=>exact Pv hV h hd ho hf
 |alloc T=>exact MZ hE hV h hd ho hf
 |box T x=>exact Rw hE hV h hd ho hf
 |build T parts=>exact MW hE hV h hd ho hf
 |buildSlice T n parts=>exact Bj hE hV h hd ho hf
 |load T a=>exact Px hE hV h hd ho hf
 |nilCheck x=>exact Fg hV h hd ho hf
 |binOp op T x y T'=>exact MX hE hV h hd ho hf
 |unOp op T x=>exact Pt hV h hd ho hf
 |convert S T x=>exact HZ hE hV h hd ho hf
 |sliceToArrayPointer T x=>exact MS hE hV h hd ho hf
 |makeSlice T l c=>exact Dm hE hV h hd ho hf
 |makeMap T r=>
  cases r with
  |none=>exact HV hE hV h hd ho hf
  |some r=>simp only [opP,ho] at hf; cases hf
 |lookup T x i ok=>exact KJ hE hV h hd ho hf
 |mapUpdate T m i x=>exact Dl hE hV h ho hf
 |fieldAddr T x f=>exact Dp hE hV h hd ho hf
 |field T x f=>exact MV hE hV h hd ho hf
 |indexAddr T x i=>exact Dn hE hV h hd ho hf
 |index T x i=>exact MU hE hV h hd ho hf
 |makeFunc fn first caps=>
  cases fn with
  |func f=>exact Fh hV h hd ho hf
  |_=>simp only [opP,ho] at hf; cases hf
 |slice T x lo hi mx=>
  cases mx with
  |none=>exact MR hE hV h hd ho hf
  |some m=>simp only [opP,ho] at hf; cases hf
 |extract t j=>
  cases t with
  |tmp i=>exact HY hV h hd ho hf
  |_=>simp only [opP,ho] at hf; cases hf
 |call c=>
  cases hc:c.callee with
  |builtin b=>exact H6 hE hV h hd ho hc hf
  |_=>simp only [opP,ho,hc] at hf; cases hf
 |store T a x=>
  cases hod:o.dst with
  |none=>rw [← hod]; exact MQ hE hV h ho hf
  |some d=>simp only [opP,ho,hod] at hf; cases hf
 |_=>simp only [opP,ho] at hf; cases hf
end Go.Own
