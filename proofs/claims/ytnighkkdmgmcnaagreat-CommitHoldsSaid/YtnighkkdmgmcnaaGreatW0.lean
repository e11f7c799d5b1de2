/- What is proved: the evaluator of the translated code, and that it is sound, part 0. Conditions: those that each theorem names. -/
import Derived.WalkKit
set_option linter.unusedVariables false
set_option linter.unusedSimpArgs false
namespace Go.Own
inductive PS where
 |fst
 |snd
 |ix (i:Nat)
 |sub (lo n:Nat)
 deriving DecidableEq
abbrev Path:=List PS
inductive Ty where
 |int (k:IntKind)
 |bool
 |str
 |flt
 |unit
 |eos (u:Nat)
 |pair (a b:Ty)
 |arr (n:Nat) (t:Ty)
 |sl (t:Ty)
 |ref (t:Ty)
 |nif
 |slf
 |nsl (t:Ty)
 |sf (s:Nat) (t:Ty) (pa:Path)
 |vw (s:Nat) (t:Ty)
 |pt (s:Nat) (t:Ty) (pa:Path)
 |mp (s:Nat) (k v:Ty)
 |rid (p:Nat) (t:Ty)
 |junk (t:Ty)
 |dyn (t:Ty)
 |map (k v:Ty)
 |pool (t:Ty)
 deriving DecidableEq,Inhabited
@[reducible] def Ty.den:Ty→Type
 | .int _=>Int
 | .bool=>Bool
 | .str=>ByteArray
 | .flt=>Nat
 | .unit=>Unit
 | .eos _=>Unit
 | .pair a b=>a.den×b.den
 | .arr _ t=>List t.den
 | .sl t=>List t.den
 | .ref t=>Option t.den
 | .nif=>Unit
 | .slf=>Unit
 | .nsl _=>Unit
 | .sf _ _ _=>Bool
 | .vw _ _=>Unit
 | .pt _ _ _=>Unit
 | .mp _ _ _=>Unit
 | .rid _ _=>Nat
 | .junk _=>Unit
 | .dyn t=>Bool×List t.den
 | .map k v=>List (k.den×v.den)
 | .pool t=>List (Nat×List t.den)
def Ty.dflt:(t:Ty)→t.den
 | .int _=>(0:Int)
 | .bool=>false
 | .str=>ByteArray.empty
 | .flt=>(0:Nat)
 | .unit=>()
 | .eos _=>()
 | .pair a b=>(a.dflt,b.dflt)
 | .arr n t=>List.replicate n t.dflt
 | .sl _=> []
 | .ref _=>none
 | .nif=>()
 | .slf=>()
 | .nsl _=>()
 | .sf _ _ _=>true
 | .vw _ _=>()
 | .pt _ _ _=>()
 | .mp _ _ _=>()
 | .rid _ _=>(0:Nat)
 | .junk _=>()
 | .dyn _=>(true,[])
 | .map _ _=> []
 | .pool _=> []
def Ty.size:Ty→Nat
 | .unit=>0
 | .eos _=>0
 | .pair a b=>a.size+b.size
 | .arr n t=>n*t.size
 | .junk t=>t.size
 |_=>1
def Ty.isAgg:Ty→Bool
 | .unit=>true
 | .eos _=>true
 | .pair _ _=>true
 | .arr _ _=>true
 | .junk t=>t.isAgg
 |_=>false
def Ty.np:Ty→Ty
 | .pool _=> .nif
 |t=>t
theorem Ty.Qn (t:Ty):t.np.size=t.size:=by cases t<;>rfl
theorem Ty.NA (t:Ty):t.np.isAgg=t.isAgg:=by cases t<;>rfl
def Ty.frz:Ty→Ty
 | .pair a b=> .pair a.frz b.frz
 | .arr n t=> .arr n t.frz
 | .nsl t=> .sl t
 | .sf _ _ _=> .slf
 | .vw _ t=> .sl t
 | .pt _ t _=> .ref t
 | .mp _ k v=> .mp 0 k v
 | .rid _ t=> .sl t
 | .junk t=>t.frz.np
 | .dyn t=> .dyn t.frz
 |t=>t
def Ty.plain:Ty→Bool
 | .pair a b=>a.plain&&b.plain
 | .arr _ t=>t.plain
 | .sl t=>t.plain
 | .ref t=>t.plain
 | .nsl _=>false
 | .sf .. =>false
 | .vw .. =>false
 | .pt .. =>false
 | .mp .. =>false
 | .rid .. =>false
 | .junk _=>false
 | .dyn _=>false
 | .map _ _=>false
 | .pool _=>false
 |_=>true
theorem Ty.eZ:∀ {t:Ty},t.plain=true→t.frz=t
 | .int _,_=>rfl
 | .bool,_=>rfl
 | .str,_=>rfl
 | .flt,_=>rfl
 | .unit,_=>rfl
 | .eos _,_=>rfl
 | .pair a b,h=>by
  simp only [Ty.plain,Bool.and_eq_true] at h
  simp only [Ty.frz,Ty.eZ h.1,Ty.eZ h.2]
 | .arr n t,h=>by simp only [Ty.plain] at h; simp only [Ty.frz,Ty.eZ h]
 | .sl _,_=>rfl
 | .ref _,_=>rfl
 | .nif,_=>rfl
 | .slf,_=>rfl
 | .nsl _,h=>by cases h
 | .sf _ _ _,h=>by cases h
 | .vw _ _,h=>by cases h
 | .pt _ _ _,h=>by cases h
 | .mp _ _ _,h=>by cases h
 | .rid _ _,h=>by cases h
 | .junk _,h=>by cases h
 | .dyn _,h=>by cases h
 | .map _ _,h=>by cases h
 | .pool _,h=>by cases h
theorem Ty.fA:∀ (t:Ty),t.frz.size=t.size
 | .int _=>rfl
 | .bool=>rfl
 | .str=>rfl
 | .flt=>rfl
 | .unit=>rfl
 | .eos _=>rfl
 | .pair a b=>by simp only [Ty.frz,Ty.size,Ty.fA a,Ty.fA b]
 | .arr n t=>by simp only [Ty.frz,Ty.size,Ty.fA t]
 | .sl _=>rfl
 | .ref _=>rfl
 | .nif=>rfl
 | .slf=>rfl
 | .nsl _=>rfl
 | .sf _ _ _=>rfl
 | .vw _ _=>rfl
 | .pt _ _ _=>rfl
 | .mp _ _ _=>rfl
 | .rid _ _=>rfl
 | .junk t=>by simp only [Ty.frz,Ty.size,Ty.Qn,Ty.fA t]
 | .dyn _=>rfl
 | .map _ _=>rfl
 | .pool _=>rfl
theorem Ty.mr:∀ (t:Ty),t.frz.isAgg=t.isAgg
 | .int _=>rfl
 | .bool=>rfl
 | .str=>rfl
 | .flt=>rfl
 | .unit=>rfl
 | .eos _=>rfl
 | .pair _ _=>rfl
 | .arr _ _=>rfl
 | .sl _=>rfl
 | .ref _=>rfl
 | .nif=>rfl
 | .slf=>rfl
 | .nsl _=>rfl
 | .sf _ _ _=>rfl
 | .vw _ _=>rfl
 | .pt _ _ _=>rfl
 | .mp _ _ _=>rfl
 | .rid _ _=>rfl
 | .junk t=>by simp only [Ty.frz,Ty.isAgg,Ty.NA,Ty.mr t]
 | .dyn _=>rfl
 | .map _ _=>rfl
 | .pool _=>rfl
def Ty.fD:Ty→Bool
 | .pool _=>true
 |_=>false
theorem Ty.NZ {t:Ty} (h:t.fD=false):t.frz.fD=false:=by
 cases t<;>first|rfl|exact h|skip
 rename_i t
 simp only [Ty.frz]
 cases t.frz<;>rfl
def bG:Ty→Path→Option (Nat×Ty)
 |t,[]=>some (0,t)
 | .pair a _,.fst::p=>bG a p
 | .pair a b,.snd::p=>(bG b p).map fun r=>(a.size+r.1,r.2)
 | .arr _ t,.ix i::p=>(bG t p).map fun r=>(i*t.size+r.1,r.2)
 | .dyn t,.ix i::p=>(bG t p).map fun r=>(i*t.size+r.1,r.2)
 | .arr _ t,.sub lo n::p=>(bG (.arr n t) p).map fun r=>(lo*t.size+r.1,r.2)
 | .dyn t,.sub lo n::p=>(bG (.arr n t) p).map fun r=>(lo*t.size+r.1,r.2)
 |_,_=>none
structure RTk where
 blk:Option Nat
 off:Nat
 ad:Option Addr
 len:Nat
 cap:Nat
 tid:TypeId
structure Tk where
 blk:Option Nat
 off:Nat
 ad:Option Addr
 len:Nat
 cap:Nat
 ty:Ty
 tid:TypeId
 rows:List RTk
abbrev aU:=Nat→Option Tk
def Tk.hdr (k:Tk):Value:= .slice k.ad k.len k.cap
def RTk.hdr (k:RTk):Value:= .slice k.ad k.len k.cap
def Tk.own (k:Tk) (b:Nat):Prop:=k.blk=some b∨∃ r,r∈k.rows∧r.blk=some b
def nZ (w:World) (b o:Nat) (cs:List Value):Prop:=∀ j v,cs[j]?=some v→w.cell? ⟨b,o+j,none⟩=some v
def Tk.at1 (k:Tk) (pa:Path):Option (Nat×Nat×Ty):=match k.blk,bG k.ty pa with
 |some b,some (off,t)=>some (b,k.off+off,t)
 |_,_=>none
def Tk.at2 (k:Tk) (t:Ty):Path→Option (Nat×Nat×Ty)
 | .ix i::pa=>match k.rows[i]? with
  |some r=>match r.blk,bG (.dyn t) pa with
   |some b,some (off,t)=>some (b,r.off+off,t)
   |_,_=>none
  |none=>none
 |_=>none
def Tk.at (k:Tk) (pa:Path):Option (Nat×Nat×Ty):=match k.ty with
 | .pool t=>k.at2 t pa
 |_=>k.at1 pa
def pathIn (n:Nat):Ty→Path→Prop
 |_,[]=>True
 | .pair a _,.fst::p=>pathIn n a p
 | .pair _ b,.snd::p=>pathIn n b p
 | .arr m t,.ix i::p=>i<m∧pathIn n t p
 | .dyn t,.ix i::p=>i<n∧pathIn n t p
 | .arr m t,.sub lo k::p=>lo+k≤m∧pathIn n (.arr k t) p
 | .dyn t,.sub lo k::p=>lo+k≤n∧pathIn n (.arr k t) p
 |_,_=>False
def Tk.Uv (k:Tk) (t:Ty):Path→Prop
 | .ix i::pa=>∃ r,k.rows[i]?=some r∧pathIn r.len (.dyn t) pa
 |_=>False
def Tk.pin (k:Tk) (pa:Path):Prop:=match k.ty with
 | .pool t=>k.Uv t pa
 |_=>pathIn k.len k.ty pa
theorem Tk.Bp {k:Tk} (h:k.ty.fD=false) (pa:Path):k.at pa=k.at1 pa:=by
 unfold Tk.at
 split
 ·rename_i t e; rw [e] at h; cases h
 ·rfl
theorem Tk.oL {k:Tk} (h:k.ty.fD=false) (pa:Path):k.pin pa=pathIn k.len k.ty pa:=by
 unfold Tk.pin
 split
 ·rename_i t e; rw [e] at h; cases h
 ·rfl
def mU (tk:aU) (s:Nat) (t:Ty) (pa:Path) (v:Value):Prop:=
 ∃ k b off,tk s=some k∧k.at pa=some (b,off,t)∧k.pin pa∧v= .pointer (some ⟨b,off,none⟩)
def ai (w:World) (I:Nat→Prop) (tk:aU):(t:Ty)→t.den→List Value→Prop
 | .int k,n,cs=>cs= [.int k n]
 | .bool,b,cs=>cs= [.bool b]
 | .str,s,cs=>cs= [.string s]
 | .flt,b,cs=>cs= [.float .f64 b]
 | .unit,_,cs=>cs= []
 | .eos _,_,cs=>cs= []
 | .pair a b,x,cs=>∃ c1 c2,cs=c1++c2∧ai w I tk a x.1 c1∧ai w I tk b x.2 c2
 | .arr n t,l,cs=>l.length=n∧cs.length=n*t.size∧∀ i x,l[i]?=some x→ai w I tk t x ((cs.drop (i*t.size)).take t.size)
 | .sl t,l,cs=>∃ ad cap,cs= [.slice ad l.length cap]∧l.length≤cap∧(l= []∨t.plain=true∧∃ b o,ad=some ⟨b,o,none⟩∧I b∧
   ∀ i x,l[i]?=some x→∃ c,ai w I tk t x c∧nZ w b (o+i*t.size) c)
 | .ref t,r,cs=>match r with
  |none=>cs= [.pointer none]
  |some x=>t.plain=true∧∃ b o c,cs= [.pointer (some ⟨b,o,none⟩)]∧I b∧ai w I tk t x c∧nZ w b o c
 | .nif,_,cs=>cs= [.nilIface]
 | .slf,_,cs=>cs= [.pointer none]
 | .nsl _,_,cs=>cs= [.slice none 0 0]
 | .sf s t pa,x,cs=>(x=true∧cs= [.pointer none])∨(x=false∧∃ v,cs= [v]∧mU tk s t pa v)
 | .vw s t,_,cs=>∃ k,tk s=some k∧k.ty= .dyn t∧cs= [k.hdr]
 | .pt s t pa,_,cs=>∃ v,cs= [v]∧mU tk s t pa v
 | .mp s k v,_,cs=>∃ q b,tk s=some q∧q.ty= .map k v∧q.blk=some b∧cs= [.map (some b)]
 | .rid p t,i,cs=>∃ q r,tk p=some q∧q.ty= .pool t∧q.rows[i]?=some r∧cs= [r.hdr]
 | .junk t,_,cs=>cs.length=t.size
 | .dyn _,_,_=>False
 | .map _ _,_,_=>False
 | .pool _,_,_=>False
theorem ai.length {w:World} {I:Nat→Prop} {tk:aU}:∀ {t:Ty} {x:t.den} {cs:List Value},ai w I tk t x cs→cs.length=t.size:=by
 intro t
 induction t with
 |int k=>intro x cs h; simp only [ai] at h; subst h; rfl
 |bool=>intro x cs h; simp only [ai] at h; subst h; rfl
 |str=>intro x cs h; simp only [ai] at h; subst h; rfl
 |flt=>intro x cs h; simp only [ai] at h; subst h; rfl
 |unit=>intro x cs h; simp only [ai] at h; subst h; rfl
 |eos u=>intro x cs h; simp only [ai] at h; subst h; rfl
 |pair a b iha ihb=>
  intro x cs h
  simp only [ai] at h
  obtain ⟨c1,c2,rfl,h1,h2⟩:=h
  simp [Ty.size,iha h1,ihb h2]
 |arr n t ih=>intro x cs h; simp only [ai] at h; simpa [Ty.size] using h.2.1
 |sl t ih=>intro x cs h; simp only [ai] at h; obtain ⟨ad,cap,rfl,_⟩:=h; rfl
 |ref t ih=>
  intro x cs h
  cases x with
  |none=>simp only [ai] at h; rw [h]; rfl
  |some x=>simp only [ai] at h; obtain ⟨_,b,o,c,rfl,_⟩:=h; rfl
 |nif=>intro x cs h; simp only [ai] at h; subst h; rfl
 |slf=>intro x cs h; simp only [ai] at h; subst h; rfl
 |nsl t=>intro x cs h; simp only [ai] at h; subst h; rfl
 |sf s t pa=>
  intro x cs h
  simp only [ai] at h
  rcases h with ⟨_,rfl⟩|⟨_,v,rfl,_⟩<;>rfl
 |vw s t=>intro x cs h; simp only [ai] at h; obtain ⟨k,_,_,rfl⟩:=h; rfl
 |pt s t pa=>intro x cs h; simp only [ai] at h; obtain ⟨v,rfl,_⟩:=h; rfl
 |mp s k v=>intro x cs h; simp only [ai] at h; obtain ⟨q,b,_,_,_,rfl⟩:=h; rfl
 |rid p t=>intro x cs h; simp only [ai] at h; obtain ⟨q,r,_,_,_,rfl⟩:=h; rfl
 |junk t=>intro x cs h; simp only [ai] at h; exact h
 |dyn t=>intro x cs h; simp only [ai] at h
 |map k v=>intro x cs h; simp only [ai] at h
 |pool t=>intro x cs h; simp only [ai] at h
theorem nZ.of_block {w w':World} {b o:Nat} {cs:List Value} (h:nZ w b o cs) (hb:w'.heap[b]?=w.heap[b]?):nZ w' b o cs:=by
 intro j v hj
 have:=h j v hj
 unfold World.cell? at*
 simpa [hb] using this
def aU.le (tk tk':aU):Prop:=∀ s k,tk s=some k→tk' s=some k
theorem aU.le.refl (tk:aU):tk.le tk:=fun _ _ h=>h
theorem mU.mono {tk tk':aU} (ht:tk.le tk') {s:Nat} {t:Ty} {pa:Path} {v:Value} (h:mU tk s t pa v):mU tk' s t pa v:=by
 obtain ⟨k,b,off,h1,h2⟩:=h
 exact ⟨k,b,off,ht _ _ h1,h2⟩
theorem ai.mono {w w':World} {I I':Nat→Prop} {tk tk':aU} (hI:∀ b,I b→I' b) (hw:∀ b,I b→w'.heap[b]?=w.heap[b]?) (ht:tk.le tk'):
  ∀ {t:Ty} {x:t.den} {cs:List Value},ai w I tk t x cs→ai w' I' tk' t x cs:=by
 intro t
 induction t with
 |int k=>intro x cs h; exact h
 |bool=>intro x cs h; exact h
 |str=>intro x cs h; exact h
 |flt=>intro x cs h; exact h
 |unit=>intro x cs h; exact h
 |eos u=>intro x cs h; exact h
 |pair a b iha ihb=>
  intro x cs h
  simp only [ai] at h ⊢
  obtain ⟨c1,c2,rfl,h1,h2⟩:=h
  exact ⟨c1,c2,rfl,iha h1,ihb h2⟩
 |arr n t ih=>
  intro x cs h
  simp only [ai] at h ⊢
  exact ⟨h.1,h.2.1,fun i y hy=>ih (h.2.2 i y hy)⟩
 |sl t ih=>
  intro x cs h
  simp only [ai] at h ⊢
  obtain ⟨ad,cap,rfl,hcap,h⟩:=h
  refine ⟨ad,cap,rfl,hcap,h.imp id ?_⟩
  rintro ⟨hp,b,o,rfl,hb,h⟩
  refine ⟨hp,b,o,rfl,hI b hb,fun i y hy=> ?_⟩
  obtain ⟨c,hc,ha⟩:=h i y hy
  exact ⟨c,ih hc,ha.of_block (hw b hb)⟩
 |ref t ih=>
  intro x cs h
  cases x with
  |none=>simp only [ai] at h ⊢; exact h
  |some x=>
   simp only [ai] at h ⊢
   obtain ⟨hp,b,o,c,rfl,hb,hc,ha⟩:=h
   exact ⟨hp,b,o,c,rfl,hI b hb,ih hc,ha.of_block (hw b hb)⟩
 |nif=>intro x cs h; exact h
 |slf=>intro x cs h; exact h
 |nsl t=>intro x cs h; exact h
 |sf s t pa=>
  intro x cs h
  rcases h with h|⟨h0,v,h1,h2⟩
  ·exact .inl h
  ·exact .inr ⟨h0,v,h1,h2.mono ht⟩
 |vw s t=>intro x cs h; simp only [ai] at h ⊢; obtain ⟨k,h1,h2⟩:=h; exact ⟨k,ht _ _ h1,h2⟩
 |pt s t pa=>intro x cs h; simp only [ai] at h ⊢; obtain ⟨v,h1,h2⟩:=h; exact ⟨v,h1,h2.mono ht⟩
 |mp s k v=>intro x cs h; simp only [ai] at h ⊢; obtain ⟨q,b,h1,h2⟩:=h; exact ⟨q,b,ht _ _ h1,h2⟩
 |rid p t=>intro x cs h; simp only [ai] at h ⊢; obtain ⟨q,r,h1,h2⟩:=h; exact ⟨q,r,ht _ _ h1,h2⟩
 |junk t=>intro x cs h; exact h
 |dyn t=>intro x cs h; simp only [ai] at h
 |map k v=>intro x cs h; simp only [ai] at h
 |pool t=>intro x cs h; simp only [ai] at h
theorem ai.plain {w:World} {I:Nat→Prop} {tk tk':aU}:∀ {t:Ty} {x:t.den} {cs:List Value},t.plain=true→ai w I tk t x cs→ai w I tk' t x cs:=by
 intro t
 induction t with
 |int k=>intro x cs _ h; exact h
 |bool=>intro x cs _ h; exact h
 |str=>intro x cs _ h; exact h
 |flt=>intro x cs _ h; exact h
 |unit=>intro x cs _ h; exact h
 |eos u=>intro x cs _ h; exact h
 |pair a b iha ihb=>
  intro x cs hp h
  simp only [Ty.plain,Bool.and_eq_true] at hp
  obtain ⟨c1,c2,e,h1,h2⟩:=h
  exact ⟨c1,c2,e,iha hp.1 h1,ihb hp.2 h2⟩
 |arr n t ih=>
  intro x cs hp h
  obtain ⟨h1,h2,h3⟩:=h
  exact ⟨h1,h2,fun i y hy=>ih hp (h3 i y hy)⟩
 |sl t ih=>
  intro x cs hp h
  obtain ⟨ad,cap,e,hcap,h⟩:=h
  refine ⟨ad,cap,e,hcap,h.imp id ?_⟩
  rintro ⟨hq,b,o,e,hb,h⟩
  refine ⟨hq,b,o,e,hb,fun i y hy=> ?_⟩
  obtain ⟨c,hc,ha⟩:=h i y hy
  exact ⟨c,ih hq hc,ha⟩
 |ref t ih=>
  intro x cs hp h
  cases x with
  |none=>exact h
  |some x=>
   obtain ⟨hq,b,o,c,e,hb,hc,ha⟩:=h
   exact ⟨hq,b,o,c,e,hb,ih hq hc,ha⟩
 |nif=>intro x cs hp h; exact h
 |slf=>intro x cs hp h; exact h
 |nsl t=>intro x cs hp h; cases hp
 |sf s t pa=>intro x cs hp h; cases hp
 |vw s t=>intro x cs hp h; cases hp
 |pt s t pa=>intro x cs hp h; cases hp
 |mp s k v=>intro x cs hp h; cases hp
 |rid p t=>intro x cs hp h; cases hp
 |junk t=>intro x cs hp h; cases hp
 |dyn t=>intro x cs hp h; cases hp
 |map k v=>intro x cs hp h; cases hp
 |pool t=>intro x cs hp h; cases hp
theorem ai.H8 {w:World} {I:Nat→Prop} {tk tk':aU} {t:Ty} {x:List t.den} {cs:List Value} (h:ai w I tk (.sl t) x cs):ai w I tk' (.sl t) x cs:=by
 obtain ⟨ad,cap,e,hcap,h⟩:=h
 refine ⟨ad,cap,e,hcap,h.imp id ?_⟩
 rintro ⟨hq,b,o,e,hb,h⟩
 refine ⟨hq,b,o,e,hb,fun i y hy=> ?_⟩
 obtain ⟨c,hc,ha⟩:=h i y hy
 exact ⟨c,hc.plain hq,ha⟩
theorem ai.Dv {w:World} {I:Nat→Prop} {tk tk':aU} {t:Ty} {x:Option t.den} {cs:List Value} (h:ai w I tk (.ref t) x cs):ai w I tk' (.ref t) x cs:=by
 cases x with
 |none=>exact h
 |some x=>
  obtain ⟨hq,b,o,c,e,hb,hc,ha⟩:=h
  exact ⟨hq,b,o,c,e,hb,hc.plain hq,ha⟩
def mentions:Ty→List Nat
 | .pair a b=>mentions a++mentions b
 | .arr _ t=>mentions t
 | .sf s _ _=> [s]
 | .vw s _=> [s]
 | .pt s _ _=> [s]
 | .mp s _ _=> [s]
 | .rid p _=> [p]
 | .dyn t=>mentions t
 |_=> []
theorem ai.congr {w:World} {I:Nat→Prop} {tk tk':aU}:∀ {t:Ty} {x:t.den} {cs:List Value},(∀ s,s∈mentions t→tk' s=tk s)→ai w I tk t x cs→ai w I tk' t x cs:=by
 intro t
 induction t with
 |int k=>intro x cs _ h; exact h
 |bool=>intro x cs _ h; exact h
 |str=>intro x cs _ h; exact h
 |flt=>intro x cs _ h; exact h
 |unit=>intro x cs _ h; exact h
 |eos u=>intro x cs _ h; exact h
 |pair a b iha ihb=>
  intro x cs hm h
  obtain ⟨c1,c2,e,h1,h2⟩:=h
  exact ⟨c1,c2,e,iha (fun s hs=>hm s (List.mem_append_left _ hs)) h1,ihb (fun s hs=>hm s (List.mem_append_right _ hs)) h2⟩
 |arr n t ih=>
  intro x cs hm h
  obtain ⟨h1,h2,h3⟩:=h
  exact ⟨h1,h2,fun i y hy=>ih hm (h3 i y hy)⟩
 |sl t ih=>intro x cs _ h; exact h.H8
 |ref t ih=>intro x cs _ h; exact h.Dv
 |nif=>intro x cs _ h; exact h
 |slf=>intro x cs _ h; exact h
 |nsl t=>intro x cs _ h; exact h
 |sf s t pa=>
  intro x cs hm h
  rcases h with h|⟨h0,v,h1,k,b,off,h2,h3⟩
  ·exact .inl h
  ·exact .inr ⟨h0,v,h1,k,b,off,(hm s (by simp [mentions])).trans h2,h3⟩
 |vw s t=>intro x cs hm h; obtain ⟨k,h1,h2⟩:=h; exact ⟨k,(hm s (by simp [mentions])).trans h1,h2⟩
 |pt s t pa=>intro x cs hm h; obtain ⟨v,h1,k,b,off,h2,h3⟩:=h; exact ⟨v,h1,k,b,off,(hm s (by simp [mentions])).trans h2,h3⟩
 |mp s k v=>intro x cs hm h; obtain ⟨q,b,h1,h2⟩:=h; exact ⟨q,b,(hm s (by simp [mentions])).trans h1,h2⟩
 |rid p t=>intro x cs hm h; obtain ⟨q,r,h1,h2⟩:=h; exact ⟨q,r,(hm p (by simp [mentions])).trans h1,h2⟩
 |junk t=>intro x cs _ h; exact h
 |dyn t=>intro x cs _ h; exact h
 |map k v=>intro x cs _ h; exact h
 |pool t=>intro x cs _ h; exact h
def aA (w:World) (I:Nat→Prop) (tk:aU) (t:Ty) (x:t.den) (v:Value):Prop:=
 if t.isAgg then ∃ cs:Array Value,v= .agg cs∧ai w I tk t x cs.toList else ai w I tk t x [v]
theorem aA.mono {w w':World} {I I':Nat→Prop} {tk tk':aU} (hI:∀ b,I b→I' b) (hw:∀ b,I b→w'.heap[b]?=w.heap[b]?) (ht:tk.le tk')
  {t:Ty} {x:t.den} {v:Value} (h:aA w I tk t x v):aA w' I' tk' t x v:=by
 unfold aA at*
 split
 ·rename_i ht'
  simp only [ht',if_true] at h
  obtain ⟨cs,rfl,h⟩:=h
  exact ⟨cs,rfl,h.mono hI hw ht⟩
 ·rename_i ht'
  simp only [ht'] at h
  exact ai.mono hI hw ht h
end Go.Own
namespace Go.Own
def ji (tyf:TypeId→Option Ty) (fin:Ty):List Field→Nat→Option Ty
 | [],_=>some fin
 |f::fs,off=>
  if f.offset=off then
   match tyf f.type with
   |some a=>match ji tyf fin fs (off+a.size) with
    |some b=>some (.pair a b)
    |none=>none
   |none=>none
  else none
def Ty.fJ:Ty→List Value
 | .int k=> [.int k 0]
 | .bool=> [.bool false]
 | .str=> [.string ⟨#[]⟩]
 | .flt=> [.float .f64 0]
 | .unit=> []
 | .eos _=> []
 | .pair a b=>a.fJ++b.fJ
 | .arr n t=>(List.replicate n t.fJ).flatten
 | .sl _=> [.slice none 0 0]
 | .ref _=> [.pointer none]
 | .nif=> [.nilIface]
 | .slf=> [.pointer none]
 | .mp _ _ _=> [.map none]
 |_=> []
def zeroCell:Value→Value→Bool
 | .int k a,.int k' b=>decide (k=k')&&decide (a=b)
 | .bool a,.bool b=>a== b
 | .string a,.string b=>a.data.toList.isEmpty&&b.data.toList.isEmpty
 | .float .f64 a,.float .f64 b=>a== b
 | .slice none 0 0,.slice none 0 0=>true
 | .pointer none,.pointer none=>true
 | .map none,.map none=>true
 | .nilIface,.nilIface=>true
 |_,_=>false
def zeroCells:List Value→List Value→Bool
 | [],[]=>true
 |a::as,b::bs=>zeroCell a b&&zeroCells as bs
 |_,_=>false
def Ud:Value→Bool
 | .agg _=>true
 |_=>false
def IY (P:Program) (T:TypeId) (t:Ty):Bool:=
 match P.info? T with
 |some i=>i.size== t.size&&match i.zero with|some z=>zeroCells z.cells.toList t.fJ&&Ud z== t.isAgg|none=>false
 |none=>false
def vO (P:Program) (T:TypeId) (t:Ty):Option Ty:=bif IY P T t then some t else none
def I5:Ty→Bool
 | .pair .slf _=>true
 | .pair _ b=>I5 b
 |_=>false
def D7 (fs:Array Field):Bool:=fs.toList.all fun f=> !decide (f.name= "_")
def q9 (P:Program):Nat→List TypeId→TypeId→Option Ty
 |0,_,_=>none
 |n+1,seen,T=>
  match P.underlying T with
  |some (.int k)=>vO P T (.int k)
  |some .bool=>vO P T .bool
  |some .string=>vO P T .str
  |some (.float .f64)=>vO P T .flt
  |some (.interface _)=>vO P T .nif
  |some (.array m e)=>match q9 P n seen e with|some a=>vO P T (.arr m a)|none=>none
  |some (.struct fs)=>match ji (q9 P n (P.underlyingId T::seen)) .unit fs.toList 0 with
   |some a=>bif P.stoodInHeld T|| !D7 fs then none else
    bif I5 a then (match ji (q9 P n (P.underlyingId T::seen)) (.eos (P.underlyingId T)) fs.toList 0 with|some a=>vO P T a|none=>none) else vO P T a
   |none=>none
  |some (.slice e)=>match q9 P n seen e with|some a=>vO P T (.sl a)|none=>none
  |some (.pointer e)=>bif seen.any (Nat.beq (P.underlyingId e)) then vO P T .slf else match q9 P n seen e with|some a=>vO P T (.ref a)|none=>vO P T .slf
  |some (.map k e)=>match q9 P n seen k,q9 P n seen e with|some a,some b=>vO P T (.mp 0 a b)|_,_=>none
  |_=>none
end Go.Own
namespace Go.Own
structure Base (P:Program) (T:TypeId) (t:Ty):Prop where
 size:(P.info? T).map (·.size)=some t.size
 zero:∃ i z,P.info? T=some i∧i.zero=some z∧z.cells.toList=t.fJ
 agg:∀ i z,P.info? T=some i→i.zero=some z→Ud z=t.isAgg
def Db:Ty→Option Nat
 | .pair _ b=>Db b
 | .eos u=>some u
 |_=>none
def qD (P:Program):Ty→(TypeId→Prop)×(List Field→Nat→Prop)
 | .int k=>(fun T=>Base P T (.int k)∧P.underlying T=some (.int k),fun _ _=>False)
 | .bool=>(fun T=>Base P T .bool∧P.underlying T=some .bool,fun _ _=>False)
 | .str=>(fun T=>Base P T .str∧P.underlying T=some .string,fun _ _=>False)
 | .flt=>(fun T=>Base P T .flt∧P.underlying T=some (.float .f64),fun _ _=>False)
 | .nif=>(fun T=>Base P T .nif∧∃ ms,P.underlying T=some (.interface ms),fun _ _=>False)
 | .slf=>(fun T=>Base P T .slf∧∃ e,P.underlying T=some (.pointer e),fun _ _=>False)
 | .unit=>(fun T=>Base P T .unit∧P.stoodInHeld T=false∧∃ fs,P.underlying T=some (.struct fs)∧fs.toList= [],fun fs _=>fs= [])
 | .eos _=>(fun _=>False,fun fs _=>fs= [])
 | .pair a b=>(fun T=>Base P T (.pair a b)∧P.stoodInHeld T=false∧(∀ u,Db b=some u→P.underlyingId T=u)∧∃ fs,P.underlying T=some (.struct fs)∧(∀ f∈fs.toList,f.name≠ "_")∧∃ f r,fs.toList=f::r∧f.offset=0∧(qD P a).1 f.type∧(qD P b).2 r a.size,
   fun fs off=>∃ f r,fs=f::r∧f.offset=off∧(qD P a).1 f.type∧(qD P b).2 r (off+a.size))
 | .arr n t=>(fun T=>Base P T (.arr n t)∧∃ e,P.underlying T=some (.array n e)∧(qD P t).1 e,fun _ _=>False)
 | .sl t=>(fun T=>Base P T (.sl t)∧∃ e,P.underlying T=some (.slice e)∧(qD P t).1 e,fun _ _=>False)
 | .ref t=>(fun T=>Base P T (.ref t)∧∃ e,P.underlying T=some (.pointer e)∧(qD P t).1 e,fun _ _=>False)
 | .mp s k v=>(fun T=>Base P T (.mp s k v)∧s=0∧∃ a b,P.underlying T=some (.map a b)∧(qD P k).1 a∧(qD P v).1 b,fun _ _=>False)
 |_=>(fun _=>False,fun _ _=>False)
def fO (P:Program) (T:TypeId) (t:Ty):Prop:=(qD P t).1 T
def fB (P:Program) (fs:List Field) (off:Nat) (t:Ty):Prop:=(qD P t).2 fs off
theorem fO.base {P:Program} {T:TypeId} {t:Ty} (h:fO P T t):Base P T t:=by
 cases t<;>first|exact h.1|exact h.elim
theorem EM {a b:Value} (h:zeroCell a b=true):a=b:=by
 unfold zeroCell at h
 split at h
 ·simp at h; rw [h.1,h.2]
 ·simp at h; rw [h]
 ·rename_i x y
  simp only [Bool.and_eq_true,List.isEmpty_iff] at h
  cases x with|mk x=>cases y with|mk y=>
  have hx:x= #[]:=by simpa using h.1
  have hy:y= #[]:=by simpa using h.2
  rw [hx,hy]
 ·simp at h; rw [h]
 ·rfl
 ·rfl
 ·rfl
 ·rfl
 ·cases h
theorem wu:∀ {a b:List Value},zeroCells a b=true→a=b
 | [],[],_=>rfl
 |a::as,b::bs,h=>by
  simp only [zeroCells,Bool.and_eq_true] at h
  rw [EM h.1,wu h.2]
 | [],_::_,h=>by simp [zeroCells] at h
 |_::_,[],h=>by simp [zeroCells] at h
theorem Base.rR {P:Program} {T:TypeId} {t u:Ty} (h:vO P T t=some u):u=t∧Base P T t:=by
 unfold vO at h
 cases hi:IY P T t with
 |false=>simp [hi] at h
 |true=>
  simp only [hi,cond_true,Option.some.injEq] at h
  refine ⟨h.symm,?_⟩
  unfold IY at hi
  cases hq:P.info? T with
  |none=>simp [hq] at hi
  |some i=>
   simp only [hq,Bool.and_eq_true,beq_iff_eq] at hi
   cases hz:i.zero with
   |none=>simp [hz] at hi
   |some z=>
    simp only [hz,Bool.and_eq_true,beq_iff_eq] at hi
    refine ⟨by simp [hq,hi.1],⟨i,z,hq,hz,wu hi.2.1⟩,?_⟩
    intro i' z' h1 h2
    rw [hq] at h1
    cases h1
    rw [hz] at h2
    cases h2
    exact hi.2.2
theorem EY {P:Program} {f:TypeId→Option Ty} (hf:∀ T t,f T=some t→fO P T t) {fin:Ty} (hfin:fin= .unit∨∃ u,fin= .eos u):
  ∀ {fs:List Field} {off:Nat} {t:Ty},ji f fin fs off=some t→fB P fs off t∧Db t=Db fin:=by
 intro fs
 induction fs with
 |nil=>
  intro off t h
  simp only [ji,Option.some.injEq] at h
  subst h
  rcases hfin with rfl|⟨u,rfl⟩<;>exact ⟨by simp [fB,qD],rfl⟩
 |cons g r ih=>
  intro off t h
  simp only [ji] at h
  split at h
  ·rename_i ho
   cases ha:f g.type with
   |none=>simp [ha] at h
   |some a=>
    simp only [ha] at h
    cases hb:ji f fin r (off+a.size) with
    |none=>simp [hb] at h
    |some b=>
     simp only [hb,Option.some.injEq] at h
     subst h
     obtain ⟨h1,h2⟩:=ih hb
     exact ⟨⟨g,r,rfl,ho,hf _ _ ha,h1⟩,h2⟩
  ·cases h
theorem yJ {P:Program} {f:TypeId→Option Ty} (hf:∀ T t,f T=some t→fO P T t) {fin:Ty} {T:TypeId} (hfin:fin= .unit∨fin= .eos (P.underlyingId T)∧(∃ a b,∃ off,ji f .unit off 0=some (.pair a b)))
  {fs:Array Field} {t:Ty} (hu:P.underlying T=some (.struct fs)) (hst:P.stoodInHeld T=false) (hnb:D7 fs=true) (h:ji f fin fs.toList 0=some t) (hb:Base P T t) (hne:fin≠ .unit→fs.toList≠ []):fO P T t:=by
 have hbl:∀ f∈fs.toList,f.name≠ "_" :=by
  intro g hg
  have:=List.all_eq_true.1 hnb g hg
  simpa using this
 obtain ⟨h1,h2⟩:=EY hf (hfin.imp id fun h=>⟨_,h.1⟩) h
 cases hfs:fs.toList with
 |nil=>
  rw [hfs] at h
  simp only [ji,Option.some.injEq] at h
  subst h
  by_cases hu':fin= .unit
  ·subst hu'; exact ⟨hb,hst,fs,hu,hfs⟩
  ·exact absurd hfs (hne hu')
 |cons g r=>
  rw [hfs] at h h1
  simp only [ji] at h
  split at h
  ·cases ha:f g.type with
   |none=>simp [ha] at h
   |some a=>
    simp only [ha] at h
    cases hb':ji f fin r (0+a.size) with
    |none=>rw [hb'] at h; cases h
    |some b=>
     simp only [hb',Option.some.injEq] at h
     subst h
     obtain ⟨g',r',e,ho,h3,h4⟩:=h1
     refine ⟨hb,hst,?_,fs,hu,hbl,g',r',?_,ho,h3,?_⟩
     ·intro u hu2
      have hu3:Db (.pair a b)=some u:=hu2
      rw [h2] at hu3
      rcases hfin with rfl|⟨rfl,_⟩
      ·cases hu3
      ·simpa [Db] using hu3
     ·rw [hfs,e]
     ·simpa [fB] using h4
  ·cases h
theorem PV {P:Program}:∀ {n:Nat} {seen:List TypeId} {T:TypeId} {t:Ty},q9 P n seen T=some t→fO P T t:=by
 intro n
 induction n with
 |zero=>intro seen T t h; simp [q9] at h
 |succ n ih=>
  intro seen T t h
  simp only [q9] at h
  split at h
  case h_1 k hu=>obtain ⟨rfl,hb⟩:=Base.rR h; exact ⟨hb,hu⟩
  case h_2 hu=>obtain ⟨rfl,hb⟩:=Base.rR h; exact ⟨hb,hu⟩
  case h_3 hu=>obtain ⟨rfl,hb⟩:=Base.rR h; exact ⟨hb,hu⟩
  case h_4 hu=>obtain ⟨rfl,hb⟩:=Base.rR h; exact ⟨hb,hu⟩
  case h_5 ms hu=>obtain ⟨rfl,hb⟩:=Base.rR h; exact ⟨hb,ms,hu⟩
  case h_6 m e hu=>
   cases he:q9 P n seen e with
   |none=>simp [he] at h
   |some a=>simp only [he] at h; obtain ⟨rfl,hb⟩:=Base.rR h; exact ⟨hb,e,hu,ih he⟩
  case h_7 fs hu=>
   have hf:∀ T' t',q9 P n (P.underlyingId T::seen) T'=some t'→fO P T' t':=fun T' t'=>ih
   cases he:ji (q9 P n (P.underlyingId T::seen)) .unit fs.toList 0 with
   |none=>simp [he] at h
   |some a=>
    simp only [he] at h
    cases hst:P.stoodInHeld T|| !D7 fs with
    |true=>rw [hst] at h; cases h
    |false=>
     rw [hst] at h
     simp only [Bool.or_eq_false_iff,Bool.not_eq_eq_eq_not,Bool.not_false] at hst
     simp only [cond_false] at h
     cases hs:I5 a with
     |false=>
      rw [hs] at h
      simp only [cond_false] at h
      obtain ⟨rfl,hb⟩:=Base.rR h
      exact yJ hf (.inl rfl) hu hst.1 hst.2 he hb (fun h=>absurd rfl h)
     |true=>
      rw [hs] at h
      simp only [cond_true] at h
      obtain ⟨x,y,rfl⟩:∃ x y,a= .pair x y:=by cases a<;>first|cases hs; done|exact ⟨_,_,rfl⟩
      cases he2:ji (q9 P n (P.underlyingId T::seen)) (.eos (P.underlyingId T)) fs.toList 0 with
      |none=>simp [he2] at h
      |some a2=>
       simp only [he2] at h
       obtain ⟨rfl,hb⟩:=Base.rR h
       refine yJ hf (.inr ⟨rfl,x,y,fs.toList,he⟩) hu hst.1 hst.2 he2 hb ?_
       intro _ h0
       rw [h0] at he
       simp [ji] at he
  case h_8 e hu=>
   cases he:q9 P n seen e with
   |none=>simp [he] at h
   |some a=>simp only [he] at h; obtain ⟨rfl,hb⟩:=Base.rR h; exact ⟨hb,e,hu,ih he⟩
  case h_9 e hu=>
   cases hs:seen.any (Nat.beq (P.underlyingId e)) with
   |true=>rw [hs] at h; obtain ⟨rfl,hb⟩:=Base.rR h; exact ⟨hb,e,hu⟩
   |false=>
    rw [hs] at h
    simp only [cond_false] at h
    cases he:q9 P n seen e with
    |none=>simp only [he] at h; obtain ⟨rfl,hb⟩:=Base.rR h; exact ⟨hb,e,hu⟩
    |some a=>simp only [he] at h; obtain ⟨rfl,hb⟩:=Base.rR h; exact ⟨hb,e,hu,ih he⟩
  case h_10 a b hu=>
   cases ha:q9 P n seen a with
   |none=>simp [ha] at h
   |some k=>
    cases hb:q9 P n seen b with
    |none=>simp [ha,hb] at h
    |some v=>simp only [ha,hb] at h; obtain ⟨rfl,hb'⟩:=Base.rR h; exact ⟨hb',rfl,a,b,hu,ih ha,ih hb⟩
  case h_11=>cases h
def Ty.lev:Ty→Nat
 | .pair a b=>max (a.lev+1) b.lev
 | .arr _ t=>t.lev+1
 | .sl t=>t.lev+1
 | .ref t=>t.lev+1
 | .mp _ k v=>max k.lev v.lev+1
 |_=>1
end Go.Own
namespace Go.Own
abbrev DV:=(t:Ty)×t.den
def iI:(t:Ty)→t.den→Path→Option DV
 |t,x,[]=>some ⟨t,x⟩
 | .pair a _,x,.fst::p=>iI a x.1 p
 | .pair _ b,x,.snd::p=>iI b x.2 p
 | .arr _ t,l,.ix i::p=>iI t (l.getD i t.dflt) p
 | .dyn t,l,.ix i::p=>iI t (l.2.getD i t.dflt) p
 | .arr _ t,l,.sub lo n::p=>iI (.arr n t) (((l:List t.den).drop lo).take n) p
 | .dyn t,l,.sub lo n::p=>iI (.arr n t) ((l.2.drop lo).take n) p
 | .pool t,l,.ix i::p=>iI (.dyn t) (false,((l:List (Nat×List t.den)).getD i (0,[])).2) p
 |_,_,_=>none
def qR:(t:Ty)→t.den→Path→DV→Option DV
 |_,_,[],d=>some d
 | .pair a b,x,.fst::p,d=>(qR a x.1 p d).map fun z=>⟨.pair z.1 b,(z.2,x.2)⟩
 | .pair a b,x,.snd::p,d=>(qR b x.2 p d).map fun z=>⟨.pair a z.1,(x.1,z.2)⟩
 | .arr n t,l,.ix i::p,d=>(qR t (l.getD i t.dflt) p d).bind fun z=>if h:z.1=t then some ⟨.arr n t,l.set i (h ▸ z.2)⟩ else none
 | .dyn t,l,.ix i::p,d=>(qR t (l.2.getD i t.dflt) p d).bind fun z=>if h:z.1=t then some ⟨.dyn t,(l.1,l.2.set i (h ▸ z.2))⟩ else none
 | .pool t,l,.ix i::p,d=>(qR (.dyn t) (false,((l:List (Nat×List t.den)).getD i (0,[])).2) p d).bind fun z=>if h:z.1= .dyn t then some ⟨.pool t,(l:List (Nat×List t.den)).set i (((l:List (Nat×List t.den)).getD i (0,[])).1,((h ▸ z.2:(Ty.dyn t).den)).2)⟩ else none
 |_,_,_,_=>none
inductive SV where
 |p (d:DV)
 |sd (d:DV)
 |va (s:Nat) (t:Ty)
 |vs (s:Nat) (t:Ty) (pa:Path) (lo n:Nat)
 |pb (s:Nat) (t:Ty) (pa:Path)
 |mp (s:Nat) (k v:Ty)
 |ud (s:Nat) (t:Ty)
 |nil
 |nilp
 |nilm
 |clo (f:FuncId) (caps:List SV)
 |tup (l:List SV)
 |dead
 |und
 deriving Inhabited
structure St where
 sl:List SV
 bx:List (Nat×DV)
def St.slot (st:St) (i:Nat):SV:=st.sl.getD i .dead
def eB:List (Nat×DV)→Nat→Option DV
 | [],_=>none
 |(i,a)::r,n=>bif Nat.beq i n then some a else eB r n
def St.box (st:St) (s:Nat):Option DV:=eB st.bx s
def sM (s:Nat) (d:DV):List (Nat×DV)→List (Nat×DV)
 | []=> [(s,d)]
 |x::r=>bif Nat.beq x.1 s then (s,d)::r else bif Nat.blt s x.1 then (s,d)::x::r else x::sM s d r
def Be (s:Nat) (l:List (Nat×DV)):List (Nat×DV):=l.filter fun x=> !Nat.beq x.1 s
def St.gI (st:St) (s:Nat) (d:DV):St:= {st with bx:=sM s d st.bx}
def kv (b:Bool) (u v:Ty):Ty:=bif b then .junk u else v
def kvX:(b:Bool)→(u v:Ty)→v.den→(kv b u v).den
 |true,_,_,_=>()
 |false,_,_,x=>x
def Ty.kill (s:Nat):Ty→Ty
 | .pair a b=> .pair (a.kill s) (b.kill s)
 | .arr n t=> .arr n (t.kill s)
 | .sf r t pa=>kv (Nat.beq r s) .slf (.sf r t pa)
 | .vw r t=>kv (Nat.beq r s) (.sl t) (.vw r t)
 | .pt r t pa=>kv (Nat.beq r s) (.ref t) (.pt r t pa)
 | .mp r k v=>kv (Nat.beq r s) (.mp 0 k v) (.mp r k v)
 | .rid r t=>kv (Nat.beq r s) (.sl t) (.rid r t)
 | .dyn t=> .dyn (t.kill s)
 |t=>t
def jV {A B:Type} (c:Bool) (h:c=false→B=A) (l:List A) (f:A→B):List B:=match c,h with
 |false,h=>(h rfl).symm ▸ l
 |true,_=>l.map f
theorem nK {A B:Type} {c:Bool} {h:c=false→B=A} {l:List A} {f:A→B} (hf:c=false→∀ x,HEq (f x) x):jV c h l f=l.map f:=by
 cases c with
 |true=>rfl
 |false=>
  have hAB:=h rfl
  subst hAB
  have:f=id:=funext fun x=>eq_of_heq (hf rfl x)
  rw [this,List.map_id]
  rfl
theorem Az {n:Nat} {t u:Ty} (e:u=t) {c:Bool} (hc:c=false) (h:c=false→u.den=t.den) (l:List t.den) (f:t.den→u.den):(⟨.arr n u,jV c h l f⟩:DV)=⟨.arr n t,l⟩:=by
 subst e; subst hc; rfl
theorem Ay {t u:Ty} (e:u=t) {c:Bool} (hc:c=false) (h:c=false→u.den=t.den) (x:Bool×List t.den) (f:t.den→u.den):(⟨.dyn u,(x.1,jV c h x.2 f)⟩:DV)=⟨.dyn t,x⟩:=by
 subst e; subst hc; rfl
theorem Ty.mq {s:Nat}:∀ {t:Ty},(mentions t).any (Nat.beq s)=false→t.kill s=t:=by
 have one:∀ {r:Nat},([r]:List Nat).any (Nat.beq s)=false→Nat.beq r s=false:=by
  intro r h
  cases e:Nat.beq r s with
  |false=>rfl
  |true=>
   have:=Nat.eq_of_beq_eq_true e
   subst this
   simp at h
 intro t
 induction t with
 |pair a b iha ihb=>
  intro h
  simp only [mentions,List.any_append,Bool.or_eq_false_iff] at h
  simp only [Ty.kill,iha h.1,ihb h.2]
 |arr n t ih=>intro h; simp only [Ty.kill]; rw [ih h]
 |sf r t pa=>intro h; simp only [Ty.kill]; rw [one h]; rfl
 |vw r t=>intro h; simp only [Ty.kill]; rw [one h]; rfl
 |pt r t pa=>intro h; simp only [Ty.kill]; rw [one h]; rfl
 |mp r k v=>intro h; simp only [Ty.kill]; rw [one h]; rfl
 |rid r t=>intro h; simp only [Ty.kill]; rw [one h]; rfl
 |dyn t ih=>intro h; simp only [Ty.kill]; rw [ih h]
 |_=>intro _; rfl
def jl (s:Nat):(t:Ty)→t.den→(t.kill s).den
 | .pair a b,x=>(jl s a x.1,jl s b x.2)
 | .arr _ t,l=>jV ((mentions t).any (Nat.beq s)) (fun h=>congrArg Ty.den (Ty.mq h)) l (jl s t)
 | .sf r t pa,x=>kvX (Nat.beq r s) .slf (.sf r t pa) x
 | .vw r t,x=>kvX (Nat.beq r s) (.sl t) (.vw r t) x
 | .pt r t pa,x=>kvX (Nat.beq r s) (.ref t) (.pt r t pa) x
 | .mp r k v,x=>kvX (Nat.beq r s) (.mp 0 k v) (.mp r k v) x
 | .rid r t,x=>kvX (Nat.beq r s) (.sl t) (.rid r t) x
 | .dyn t,x=>(x.1,jV ((mentions t).any (Nat.beq s)) (fun h=>congrArg Ty.den (Ty.mq h)) x.2 (jl s t))
 | .pool _,x=>x
 | .int _,x=>x
 | .bool,x=>x
 | .str,x=>x
 | .flt,x=>x
 | .unit,x=>x
 | .eos _,x=>x
 | .sl _,x=>x
 | .ref _,x=>x
 | .nif,x=>x
 | .slf,x=>x
 | .nsl _,x=>x
 | .junk _,x=>x
 | .map _ _,x=>x
def DV.kill (s:Nat) (d:DV):DV:=⟨d.1.kill s,jl s d.1 d.2⟩
def DV.yT (s:Nat) (d:DV):DV:=bif (mentions d.1).any (Nat.beq s) then DV.kill s d else d
theorem He {a b:Nat} (h:¬ a=b):Nat.beq a b=false:=by
 cases e:Nat.beq a b with
 |false=>rfl
 |true=>exact absurd (Nat.eq_of_beq_eq_true e) h
theorem jW (s:Nat):∀ {t:Ty} {x:t.den},s∉mentions t→DV.kill s ⟨t,x⟩=⟨t,x⟩:=by
 have kvn:∀ {b:Bool} {u v:Ty} {x:v.den},b=false→(⟨kv b u v,kvX b u v x⟩:DV)=⟨v,x⟩:=by
  intro b u v x h; subst h; rfl
 intro t
 induction t with
 |pair a b iha ihb=>
  intro x hs
  simp only [mentions,List.mem_append,not_or] at hs
  have h1:=iha (x:=x.1) hs.1
  have h2:=ihb (x:=x.2) hs.2
  unfold DV.kill at h1 h2 ⊢
  simp only [Ty.kill,jl]
  have e1:=(Sigma.mk.inj h1)
  have e2:=(Sigma.mk.inj h2)
  dsimp only at e1 e2
  obtain ⟨p1,q1⟩:=e1
  obtain ⟨p2,q2⟩:=e2
  generalize jl s a x.1=y1 at q1
  generalize jl s b x.2=y2 at q2
  revert y1 y2
  rw [p1,p2]
  intro y1 q1 y2 q2
  cases q1; cases q2; rfl
 |arr n t ih=>
  intro l hs
  have hc:(mentions t).any (Nat.beq s)=false:=by
   rw [List.any_eq_false]
   intro x hx e
   have:=Nat.eq_of_beq_eq_true e
   subst this
   exact hs hx
  exact Az (Ty.mq hc) hc _ l _
 |sf r t pa=>intro x hs; exact kvn (He fun e=>hs (by simp [mentions,e]))
 |vw r t=>intro x hs; exact kvn (He fun e=>hs (by simp [mentions,e]))
 |pt r t pa=>intro x hs; exact kvn (He fun e=>hs (by simp [mentions,e]))
 |mp r k v=>intro x hs; exact kvn (He fun e=>hs (by simp [mentions,e]))
 |rid r t=>intro x hs; exact kvn (He fun e=>hs (by simp [mentions,e]))
 |dyn t ih=>
  intro l hs
  have hc:(mentions t).any (Nat.beq s)=false:=by
   rw [List.any_eq_false]
   intro x hx e
   have:=Nat.eq_of_beq_eq_true e
   subst this
   exact hs hx
  exact Ay (Ty.mq hc) hc _ l _
 |_=>intro x hs; rfl
theorem xZ (s:Nat) (t:Ty) (x:(Ty.dyn t).den):jl s (.dyn t) x=(x.1,x.2.map (jl s t)):=by
 show (x.1,jV _ _ x.2 (jl s t))=_
 refine congrArg (Prod.mk x.1) (nK fun hc x=> ?_)
 have:=jW s (t:=t) (x:=x) fun hm=>by
  have:=List.any_eq_false.1 hc s hm
  simp at this
 exact (Sigma.mk.inj this).2
theorem uW (s n:Nat) (t:Ty) (l:List t.den):jl s (.arr n t) l=l.map (jl s t):=by
 show jV _ _ l (jl s t)=_
 refine nK fun hc x=> ?_
 have:=jW s (t:=t) (x:=x) fun hm=>by
  have:=List.any_eq_false.1 hc s hm
  simp at this
 exact (Sigma.mk.inj this).2
theorem DV.jZ (s:Nat) (d:DV):DV.yT s d=DV.kill s d:=by
 obtain ⟨t,x⟩:=d
 unfold DV.yT
 cases h:(mentions t).any (Nat.beq s) with
 |true=>rfl
 |false=>
  refine (jW s fun hm=> ?_).symm
  have:=List.any_eq_false.1 h s hm
  simp at this
def SV.eu (s:Nat):SV→SV
 | .sd d=> .sd (DV.yT s d)
 | .va r t=>bif Nat.beq r s then .dead else .va r t
 | .vs r t pa lo n=>bif Nat.beq r s then .dead else .vs r t pa lo n
 | .pb r t pa=>bif Nat.beq r s then .dead else .pb r t pa
 | .mp r k v=>bif Nat.beq r s then .dead else .mp r k v
 | .ud r t=>bif Nat.beq r s then .dead else .ud r t
 |v=>v
def SV.kill (s:Nat):SV→SV
 | .clo f caps=> .clo f (caps.map (SV.eu s))
 | .tup l=> .tup (l.map (SV.eu s))
 |v=>v.eu s
def St.kill (s:Nat) (st:St):St:=⟨st.sl.map (SV.kill s),st.bx.map fun x=>(x.1,DV.yT s x.2)⟩
def mkS (d:DV):SV:=bif d.1.plain then .p d else .sd d
def thT (b c:Bool) (r:Nat) (t:Ty):Ty:=bif b then (bif c then .sl t else .junk (.sl t)) else .rid r t
def thX (u:Ty) (l:List (Nat×List u.den)) (r:Nat) (t:Ty) (k:Nat):(b c:Bool)→(c=true→u=t)→(thT b c r t).den
 |true,true,h=>(h rfl ▸ (l.getD k (0,[])).2:List t.den)
 |true,false,_=>()
 |false,_,_=>k
def Ty.thaw (s:Nat) (u:Ty):Ty→Ty
 | .pair a b=> .pair (Ty.thaw s u a) (Ty.thaw s u b)
 | .arr n t=> .arr n (Ty.thaw s u t)
 | .rid r t=>thT (Nat.beq r s) (decide (u=t)) r t
 | .dyn t=> .dyn (Ty.thaw s u t)
 |t=>t
theorem Ty.pu {s:Nat} {u:Ty}:∀ {t:Ty},(mentions t).any (Nat.beq s)=false→Ty.thaw s u t=t:=by
 intro t
 induction t with
 |pair a b iha ihb=>
  intro h
  simp only [mentions,List.any_append,Bool.or_eq_false_iff] at h
  simp only [Ty.thaw,iha h.1,ihb h.2]
 |arr n t ih=>intro h; simp only [Ty.thaw]; rw [ih h]
 |rid r t=>
  intro h
  simp only [Ty.thaw]
  cases e:Nat.beq r s with
  |false=>rfl
  |true=>
   have:=Nat.eq_of_beq_eq_true e
   subst this
   simp [mentions] at h
 |dyn t ih=>intro h; simp only [Ty.thaw]; rw [ih h]
 |_=>intro _; rfl
def pO (s:Nat) (u:Ty) (l:List (Nat×List u.den)):(t:Ty)→t.den→(Ty.thaw s u t).den
 | .pair a b,x=>(pO s u l a x.1,pO s u l b x.2)
 | .arr _ t,x=>jV ((mentions t).any (Nat.beq s)) (fun h=>congrArg Ty.den (Ty.pu h)) x (pO s u l t)
 | .rid r t,k=>thX u l r t k (Nat.beq r s) (decide (u=t)) of_decide_eq_true
 | .dyn t,x=>(x.1,jV ((mentions t).any (Nat.beq s)) (fun h=>congrArg Ty.den (Ty.pu h)) x.2 (pO s u l t))
 | .int _,x=>x
 | .bool,x=>x
 | .str,x=>x
 | .flt,x=>x
 | .unit,x=>x
 | .eos _,x=>x
 | .sl _,x=>x
 | .ref _,x=>x
 | .nif,x=>x
 | .slf,x=>x
 | .nsl _,x=>x
 | .sf ..,x=>x
 | .vw ..,x=>x
 | .pt ..,x=>x
 | .mp ..,x=>x
 | .junk _,x=>x
 | .map _ _,x=>x
 | .pool _,x=>x
def DV.thaw (s:Nat) (u:Ty) (l:List (Nat×List u.den)) (d:DV):DV:=⟨Ty.thaw s u d.1,pO s u l d.1 d.2⟩
def DV.JO (s:Nat) (u:Ty) (l:List (Nat×List u.den)) (d:DV):DV:=bif (mentions d.1).any (Nat.beq s) then DV.thaw s u l d else d
theorem wh (s:Nat) (u:Ty) (l:List (Nat×List u.den)):∀ {t:Ty} {x:t.den},(mentions t).any (Nat.beq s)=false→DV.thaw s u l ⟨t,x⟩=⟨t,x⟩:=by
 intro t
 induction t with
 |pair a b iha ihb=>
  intro x hs
  simp only [mentions,List.any_append,Bool.or_eq_false_iff] at hs
  have h1:=iha (x:=x.1) hs.1
  have h2:=ihb (x:=x.2) hs.2
  unfold DV.thaw at h1 h2 ⊢
  simp only [Ty.thaw,pO]
  obtain ⟨p1,q1⟩:=Sigma.mk.inj h1
  obtain ⟨p2,q2⟩:=Sigma.mk.inj h2
  dsimp only at p1 p2 q1 q2
  generalize pO s u l a x.1=y1 at q1
  generalize pO s u l b x.2=y2 at q2
  revert y1 y2
  rw [p1,p2]
  intro y1 q1 y2 q2
  cases q1; cases q2; rfl
 |arr n t ih=>intro x hc; exact Az (t:=t) (Ty.pu (t:=t) hc) hc _ x _
 |rid r t=>
  intro x hs
  have h0:Nat.beq r s=false:=by
   cases e:Nat.beq r s with
   |false=>rfl
   |true=>
    have:=Nat.eq_of_beq_eq_true e
    subst this
    simp [mentions] at hs
  show (⟨thT (Nat.beq r s) (decide (u=t)) r t,thX u l r t x (Nat.beq r s) (decide (u=t)) of_decide_eq_true⟩:DV)=_
  rw [h0]; rfl
 |dyn t ih=>intro x hc; exact Ay (t:=t) (Ty.pu (t:=t) hc) hc _ x _
 |_=>intro x hs; rfl
theorem DV.Fa (s:Nat) (u:Ty) (l:List (Nat×List u.den)) (d:DV):DV.JO s u l d=DV.thaw s u l d:=by
 obtain ⟨t,x⟩:=d
 unfold DV.JO
 cases h:(mentions t).any (Nat.beq s) with
 |true=>rfl
 |false=>exact (wh s u l h).symm
theorem KV (s:Nat) (u:Ty) (l:List (Nat×List u.den)) (n:Nat) (t:Ty) (x:List t.den):pO s u l (.arr n t) x=x.map (pO s u l t):=by
 show jV _ _ x (pO s u l t)=_
 exact nK fun hc x=>(Sigma.mk.inj (wh s u l hc)).2
theorem KU (s:Nat) (u:Ty) (l:List (Nat×List u.den)) (t:Ty) (x:(Ty.dyn t).den):pO s u l (.dyn t) x=(x.1,x.2.map (pO s u l t)):=by
 show (x.1,jV _ _ x.2 (pO s u l t))=_
 exact congrArg (Prod.mk x.1) (nK fun hc x=>(Sigma.mk.inj (wh s u l hc)).2)
def SV.pQ (s:Nat) (u:Ty) (l:List (Nat×List u.den)):SV→SV
 | .sd d=>bif (mentions d.1).any (Nat.beq s) then mkS (DV.thaw s u l d) else .sd d
 |v=>v
def SV.thaw (s:Nat) (u:Ty) (l:List (Nat×List u.den)):SV→SV
 | .clo f caps=> .clo f (caps.map (SV.pQ s u l))
 | .tup r=> .tup (r.map (SV.pQ s u l))
 |v=>SV.pQ s u l v
def DV.mD (d:DV):Bool:=match d.1 with
 | .dyn t=>t.plain
 | .pool t=>t.plain
 |t=>t.plain
def kN:DV→Option ((t:Ty)×List t.den)
 |⟨.dyn t,x⟩=>some ⟨t,x.2⟩
 |⟨.arr _ t,l⟩=>some ⟨t,l⟩
 |_=>none
def fU (s:Nat) (c:DV):(t:Ty)→t.den→DV
 | .pair a b,x=>⟨.pair (fU s c a x.1).1 (fU s c b x.2).1,((fU s c a x.1).2,(fU s c b x.2).2)⟩
 | .vw r t,x=>bif Nat.beq r s then (match kN c with|some x=>⟨.sl x.1,x.2⟩|none=>⟨.junk (.sl t),()⟩) else ⟨.vw r t,x⟩
 | .pt r t pa,x=>bif Nat.beq r s then (match iI c.1 c.2 pa with|some x=>bif x.1.plain then ⟨.ref x.1,some x.2⟩ else ⟨.junk (.ref t),()⟩|none=>⟨.junk (.ref t),()⟩) else ⟨.pt r t pa,x⟩
 | .mp r k v,x=>bif Nat.beq r s then ⟨.junk (.mp 0 k v),()⟩ else ⟨.mp r k v,x⟩
 | .sf r t pa,x=>bif Nat.beq r s then ⟨.junk .slf,()⟩ else ⟨.sf r t pa,x⟩
 | .arr n t,x=>DV.kill s ⟨.arr n t,x⟩
 | .rid r t,x=>bif Nat.beq r s then ⟨.junk (.sl t),()⟩ else ⟨.rid r t,x⟩
 | .dyn t,x=>DV.yT s ⟨.dyn t,x⟩
 |t,x=>⟨t,x⟩
def SV.mP (s:Nat) (c:DV):SV→SV
 | .sd d=>bif (mentions d.1).any (Nat.beq s) then mkS (fU s c d.1 d.2) else .sd d
 | .va r t=>bif Nat.beq r s then (match kN c with|some x=> .p ⟨.sl x.1,x.2⟩|none=> .dead) else .va r t
 | .vs r t pa lo n=>bif Nat.beq r s then (match (iI c.1 c.2 pa).bind kN with|some x=> .p ⟨.sl x.1,(x.2.drop lo).take n⟩|none=> .dead) else .vs r t pa lo n
 | .pb r t pa=>bif Nat.beq r s then (match iI c.1 c.2 pa with|some x=>bif x.1.plain then .p ⟨.ref x.1,some x.2⟩ else .dead|none=> .dead) else .pb r t pa
 | .mp r k v=>bif Nat.beq r s then .dead else .mp r k v
 | .ud r t=>bif Nat.beq r s then .dead else .ud r t
 |v=>v
def SV.BQ (s:Nat) (c:DV):SV→SV
 | .clo f caps=> .clo f (caps.map (SV.mP s c))
 | .tup l=> .tup (l.map (SV.mP s c))
 |v=>v.mP s c
def SV.frz (s:Nat):DV→SV→SV
 |⟨.pool u,l⟩,v=>(SV.thaw s u l v).kill s
 |c,v=>v.BQ s c
def DV.fz (s:Nat):DV→DV→DV
 |⟨.pool u,l⟩,d=>DV.yT s (DV.JO s u l d)
 |c,d=>fU s c d.1 d.2
def St.jI (s:Nat) (c:DV) (st:St):St:=⟨st.sl.map (SV.frz s c),Be s (st.bx.map fun x=>(x.1,DV.fz s c x.2))⟩
def SV.sites:SV→List Nat
 | .sd d=>mentions d.1
 | .va s _=> [s]
 | .vs s _ _ _ _=> [s]
 | .pb s _ _=> [s]
 | .mp s _ _=> [s]
 | .ud s _=> [s]
 |_=> []
def SV.dO:SV→List Nat
 | .clo _ caps=>caps.flatMap SV.sites
 | .tup l=>l.flatMap SV.sites
 |v=>v.sites
def o9 (a b:List Nat):Bool:=a.all fun x=> !b.any (Nat.beq x)
def Ty.bL:Ty→Bool
 | .dyn _=>true
 | .map _ _=>true
 | .pool _=>true
 |_=>false
def dz:(t:Ty)→t.den→DV
 | .pair a b,x=>⟨.pair (dz a x.1).1 (dz b x.2).1,((dz a x.1).2,(dz b x.2).2)⟩
 | .nsl t,_=>⟨.sl t,[]⟩
 |t,x=>⟨t,x⟩
end Go.Own
