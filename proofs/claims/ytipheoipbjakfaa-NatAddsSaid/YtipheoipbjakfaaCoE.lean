/- What is proved: calls are sound; operations as effects; effects commute. Conditions: those that each theorem names. -/
import Derived.Test.YtipheoipbjakfaaCoD
import Derived.Calls
set_option linter.unusedVariables false
set_option linter.unusedSimpArgs false
/- Calls: what a function's contract says; the caller's state behind a call. -/
set_option linter.unusedVariables false
namespace Go.Own
variable {P : Program} {E : Env} {w0 w w' : World} {I0 I : Nat → Prop} {xs : List Nat} {st st' : St} {tm : Array Value} {tok : Tok} {ds : List Deferred} {o : Oper}

def capAv (w : World) (I : Nat → Prop) (xs : List Nat) (bs : List DV) : AV → Value → Prop
  | .val d, v => valRep w I d.1 d.2 v
  | .xp j t pa, v => ∃ b off d, xs[j]? = some b ∧ bs[j]? = some d ∧ pathAt d.1 pa = some (off, t) ∧ pathIn d.1 pa ∧ v = .pointer (some ⟨b, off, none⟩)
  | _, _ => False

/-- An argument's value. -/
def avRep (w : World) (I : Nat → Prop) (xs : List Nat) (bs : List DV) : AV → Value → Prop
  | .clo f caps, v => ∃ vs : Array Value, v = .func (.func f) #[] vs ∧ vs.size = caps.length ∧ ∀ (j : Nat) (c : AV) (x : Value), caps[j]? = some c → vs[j]? = some x → capAv w I xs bs c x
  | a, v => capAv w I xs bs a v

def BoxesAt (w : World) (I : Nat → Prop) (xs : List Nat) (bs : List DV) : Prop :=
  xs.length = bs.length ∧ ∀ (j : Nat) (b : Nat) (d : DV), xs[j]? = some b → bs[j]? = some d → BoxRep w I b d

/-- Arguments, and boxes, as the callee finds them. -/
structure Given (w : World) (I : Nat → Prop) (xs : List Nat) (bs : List DV) (as : List AV) (args : Array Value) : Prop where
  nodup : ∀ (i j b : Nat), xs[i]? = some b → xs[j]? = some b → i = j
  xI : ∀ b ∈ xs, ¬ I b
  xlt : ∀ b ∈ xs, b < w.heap.size
  ilt : ∀ b, I b → b < w.heap.size
  boxes : BoxesAt w I xs bs
  size : args.size = as.length
  args : ∀ (j : Nat) (a : AV) (v : Value), as[j]? = some a → args[j]? = some v → avRep w I xs bs a v

def rvRep (w : World) (I : Nat → Prop) (tk : Option Nat) : RV → Value → Prop
  | .val d, v => valRep w I d.1 d.2 v
  | .own t nl l, v => ownVal w I tk t nl l v

def retVal (vs : Array Value) : Value := if h : vs.size = 1 then vs[0] else .tuple vs

/-- What a call leaves. -/
structure Left' (w : World) (I : Nat → Prop) (xs : List Nat) (bs : List DV) (r : Res) (v : Value) (w' : World) (I' : Nat → Prop) : Prop where
  sub : ∀ b, I b → I' b
  new : ∀ b, I' b → I b ∨ w.heap.size ≤ b
  ilt : ∀ b, I' b → b < w'.heap.size
  keep : ∀ b, b < w.heap.size → b ∉ xs → w'.heap[b]? = w.heap[b]?
  size : w.heap.size ≤ w'.heap.size
  os : w'.os = w.os
  output : w'.output = w.output
  tape : w'.tape = w.tape
  boxes : BoxesAt w' I' xs r.2
  typ : r.2.map (·.1) = bs.map (·.1)
  xI : ∀ b ∈ xs, ¬ I' b
  res : ∃ (vs : Array Value) (tk : Nat → Option Nat), v = retVal vs ∧ vs.size = r.1.length ∧ (∀ j b, tk j = some b → w.heap.size ≤ b ∧ b < w'.heap.size ∧ ¬ I' b) ∧ (∀ i j b, tk i = some b → tk j = some b → i = j) ∧
    ∀ (j : Nat) (x : RV) (y : Value), r.1[j]? = some x → vs[j]? = some y → rvRep w' I' (tk j) x y

/-- A call comes to a value. -/
def CallsAny (P : Program) (f : FuncId) (args : Array Value) (w : World) (R : Value → World → Prop) : Prop :=
  (∃ fn, P.funcs[f]? = some fn ∧ fn.name ≠ "runtime.NumGoroutine" ∧ fn.body.isSome ∧ Calls P f args w (fun e w' => ∃ v, e = .returned v ∧ R v w')) ∨
  ∃ v w', (callFunc f args).run P w = .ok (.value v) w' ∧ R v w'

def Good (P : Program) (f : FuncId) (as : List AV) (bs : List DV) (r : Res) : Prop :=
  ∀ (w : World) (I : Nat → Prop) (xs : List Nat) (args : Array Value), Given w I xs bs as args → CallsAny P f args w fun v w' => ∃ I', Left' w I xs bs r v w' I'

def SoundD (P : Program) (D : CallD) : Prop := ∀ f as bs r, D f as bs = some (true, r) → Good P f as bs r

/-! ### The caller's side -/
theorem mem_addSite {l : List Nat} {s r : Nat} : r ∈ addSite l s ↔ r ∈ l ∨ r = s := by
  unfold addSite
  cases h : l.contains s with
  | true => simp only [cond_true]; constructor
            · exact .inl
            · rintro (h1 | rfl)
              · exact h1
              · simpa using h
  | false => simp
theorem nodup_addSite {l : List Nat} {s : Nat} (h : l.Nodup) : (addSite l s).Nodup := by
  unfold addSite
  cases hc : l.contains s with
  | true => simpa using h
  | false =>
    simp only [cond_false]
    rw [List.nodup_append]
    refine ⟨h, by simp, fun a ha b hb => ?_⟩
    rintro rfl
    have : a = s := by simpa using hb
    subst this
    have : l.contains a = true := by simpa using ha
    rw [hc] at this; cases this

theorem foldl_sites_nodup (caps : List SV) : ∀ {l : List Nat}, l.Nodup → (caps.foldl (fun a (c : SV) => match c with | .pb s _ _ => addSite a s | _ => a) l).Nodup := by
  induction caps with
  | nil => intro l h; exact h
  | cons c caps ih =>
    intro l h
    simp only [List.foldl_cons]
    apply ih
    split
    · exact nodup_addSite h
    · exact h

theorem sites_nodup : ∀ {vs : List SV} {l : List Nat}, l.Nodup → (sitesOf vs l).Nodup := by
  intro vs
  induction vs with
  | nil => intro l h; exact h
  | cons v vs ih =>
    intro l h
    cases v <;> simp only [sitesOf] <;> first | exact ih h | skip
    · exact ih (nodup_addSite h)
    · exact ih (foldl_sites_nodup _ h)

/-- The boxes that are handed on, by their blocks. -/
theorem boxes_given (h : Inv w0 I0 xs st tm w I tok) : ∀ {sites : List Nat} {bs : List DV}, sites.mapM st.box = some bs →
    ∃ ys : List Nat, ys.length = sites.length ∧ (∀ (j s : Nat), sites[j]? = some s → ∃ b, ys[j]? = some b ∧ tok (.box s) = some b) ∧ BoxesAt w I ys bs := by
  intro sites
  induction sites with
  | nil => intro bs hb; simp at hb; subst hb; exact ⟨[], rfl, by simp, rfl, by simp⟩
  | cons s sites ih =>
    intro bs hb
    simp only [List.mapM_cons, Option.bind_eq_bind, Option.pure_def] at hb
    obtain ⟨d, hd, hb⟩ := Option.bind_eq_some_iff.1 hb
    obtain ⟨bs', hbs, hb⟩ := Option.bind_eq_some_iff.1 hb
    cases hb
    obtain ⟨ys, h1, h2, h3, h4⟩ := ih hbs
    obtain ⟨b, hb, hr⟩ := h.boxes s d hd
    refine ⟨b :: ys, by simp [h1], fun j r hj => ?_, by simp [h3], fun j b' d' hj hd' => ?_⟩
    · cases j with
      | zero => simp at hj; subst hj; exact ⟨b, rfl, hb⟩
      | succ j => simpa using h2 j r (by simpa using hj)
    · cases j with
      | zero => simp at hj hd'; subst hj; subst hd'; exact hr
      | succ j => exact h4 j b' d' (by simpa using hj) (by simpa using hd')

/-- The world behind a call: the caller's state stands, but for the boxes that were handed on. -/
theorem Inv.afterCall (h : Inv w0 I0 xs st tm w I tok) {I2 : Nat → Prop} {sites : List Nat} {ys : List Nat} {bs ds' : List DV} (hnd : sites.Nodup) (hlen : ys.length = sites.length)
    (hsite : ∀ (j s : Nat), sites[j]? = some s → ∃ b, ys[j]? = some b ∧ tok (.box s) = some b) (hbs : sites.mapM st.box = some bs) (htyp : ds'.map (·.1) = bs.map (·.1))
    (hsub : ∀ b, I b → I2 b) (hnew : ∀ b, I2 b → I b ∨ w.heap.size ≤ b) (hilt : ∀ b, I2 b → b < w'.heap.size)
    (hkeep : ∀ b, b < w.heap.size → b ∉ ys → w'.heap[b]? = w.heap[b]?) (hsize : w.heap.size ≤ w'.heap.size) (hos : w'.os = w.os) (hout : w'.output = w.output) (htape : w'.tape = w.tape)
    (hbox : BoxesAt w' I2 ys ds') : Inv w0 I0 xs (setBoxes st sites ds') tm w' I2 tok := by
  have hys : ∀ b ∈ ys, ∃ s, s ∈ sites ∧ tok (.box s) = some b := by
    intro b hb
    obtain ⟨j, hj⟩ := List.getElem?_of_mem hb
    have hjl : j < sites.length := by rw [← hlen]; exact (List.getElem?_eq_some_iff.1 hj).1
    obtain ⟨b', hb', ht⟩ := hsite j sites[j] (List.getElem?_eq_getElem hjl)
    rw [hj] at hb'; cases hb'
    exact ⟨_, List.getElem_mem hjl, ht⟩
  have hIy : ∀ b, I b → w'.heap[b]? = w.heap[b]? := by
    intro b hb
    refine hkeep b (h.ilt b hb) ?_
    intro hm
    obtain ⟨s, _, ht⟩ := hys b hm
    exact h.tokI _ b ht hb
  have htk : ∀ k b, tok k = some b → (∀ s, k ≠ .box s) → w'.heap[b]? = w.heap[b]? := by
    intro k b hk hne
    refine hkeep b (h.tokLt k b hk) ?_
    intro hm
    obtain ⟨s, _, ht⟩ := hys b hm
    exact hne s (h.inj _ _ b hk ht)
  -- the boxes of the new state
  have hsb : ∀ (sites : List Nat) (ds : List DV) (st : St), sites.Nodup → sites.length = ds.length →
      (setBoxes st sites ds).sl = st.sl ∧ (∀ s, s ∉ sites → (setBoxes st sites ds).box s = st.box s) ∧ ∀ (j s : Nat) (d : DV), sites[j]? = some s → ds[j]? = some d → (setBoxes st sites ds).box s = some d := by
    intro sites
    induction sites with
    | nil => intro ds st _ _; cases ds <;> exact ⟨rfl, fun _ _ => rfl, by simp⟩
    | cons s sites ih =>
      intro ds st hnd hl
      cases ds with
      | nil => cases hl
      | cons d ds =>
        have hnd' := List.nodup_cons.1 hnd
        obtain ⟨i1, i2, i3⟩ := ih ds (st.setBox s d) hnd'.2 (by simpa using hl)
        refine ⟨i1, fun r hr => ?_, fun j r e hj he => ?_⟩
        · simp only [List.mem_cons, not_or] at hr
          simp only [setBoxes]
          rw [i2 r hr.2, box_setBox, if_neg hr.1]
        · simp only [setBoxes]
          cases j with
          | zero =>
            simp at hj he; subst hj; subst he
            rw [i2 s hnd'.1, box_setBox, if_pos rfl]
          | succ j => exact i3 j r e (by simpa using hj) (by simpa using he)
  have hl2 : sites.length = ds'.length := by
    have h1 := (mapM_get hbs).1
    have h2 := congrArg List.length htyp
    simp only [List.length_map] at h2
    omega
  obtain ⟨b1, b2, b3⟩ := hsb sites ds' st hnd hl2
  have hslot : ∀ i, (setBoxes st sites ds').slot i = st.slot i := fun i => by unfold St.slot; rw [b1]
  -- a box' type stands
  have hty : ∀ s d, st.box s = some d → ∃ d', (setBoxes st sites ds').box s = some d' ∧ d'.1 = d.1 := by
    intro s d hs
    by_cases hm : s ∈ sites
    · obtain ⟨j, hj⟩ := List.getElem?_of_mem hm
      have hjl := (List.getElem?_eq_some_iff.1 hj).1
      have hd' : ds'[j]? = some ds'[j] := List.getElem?_eq_getElem (by omega)
      refine ⟨_, b3 j s _ hj hd', ?_⟩
      have hb0 : ∃ d0, bs[j]? = some d0 := ⟨_, List.getElem?_eq_getElem (by rw [(mapM_get hbs).1]; exact hjl)⟩
      obtain ⟨d0, hd0⟩ := hb0
      obtain ⟨s', hs', hbx⟩ := (mapM_get hbs).2 j d0 hd0
      rw [hj] at hs'; cases hs'
      rw [hs] at hbx; cases hbx
      have := congrArg (fun l => l[j]?) htyp
      simp only [List.getElem?_map, hd', hd0, Option.map_some, Option.some.injEq] at this
      exact this
    · exact ⟨d, by rw [b2 s hm]; exact hs, rfl⟩
  have hcap : ∀ c x, capRep w I tok st c x → capRep w' I2 tok (setBoxes st sites ds') c x := by
    intro c x hc
    cases c with
    | p d => exact hc.mono hsub hIy
    | pb s t pa =>
      obtain ⟨b, off, d, h1, h2, h3, h4, h5⟩ := hc
      obtain ⟨d', h6, h7⟩ := hty s d h2
      exact ⟨b, off, d', h1, h6, by rw [h7]; exact h3, by rw [h7]; exact h4, h5⟩
    | _ => exact hc
  constructor
  case len => rw [b1]; exact h.len
  case small => rw [b1]; exact h.small
  case slots =>
    intro i hi
    rw [b1] at hi
    rw [hslot]
    have hr := h.slots i hi
    generalize st.slot i = s at hr
    cases s with
    | p e => exact valRep.mono hsub hIy hr
    | own t nl l => exact ownVal.world hsub hIy (fun b hb => htk _ b hb (by simp)) hr
    | rf g => obtain ⟨h1, h2⟩ := hr; exact ⟨by rw [hslot]; exact h1, h2⟩
    | rs g t lo n => obtain ⟨h1, h2, h3, h4⟩ := hr; exact ⟨by rw [hslot]; exact h1, by rw [hslot]; exact h2, by rw [hslot]; exact h3, h4⟩
    | pb s t pa => exact hcap (.pb s t pa) _ hr
    | pe g t0 k t pa => obtain ⟨h1, h2⟩ := hr; exact ⟨by rw [hslot]; exact h1, h2⟩
    | clo f caps => obtain ⟨vs, e, hl, hc⟩ := hr; exact ⟨vs, e, hl, fun j c x h1 h2 => hcap c x (hc j c x h1 h2)⟩
    | tup l =>
      obtain ⟨vs, e, hl, hc⟩ := hr
      refine ⟨vs, e, hl, fun j c x h1 h2 => ?_⟩
      have := hc j c x h1 h2
      cases c with
      | p d => exact valRep.mono hsub hIy this
      | own t nl l => exact ownVal.world hsub hIy (fun b hb => htk _ b hb (by simp)) this
      | dead => trivial
      | _ => exact this
    | nil => exact hr
    | nilp => exact hr
    | dead => trivial
    | und => exact hr
  case boxes =>
    intro s d hs
    by_cases hm : s ∈ sites
    · obtain ⟨j, hj⟩ := List.getElem?_of_mem hm
      obtain ⟨b, hb, ht⟩ := hsite j s hj
      have hjl := (List.getElem?_eq_some_iff.1 hj).1
      have hd' : ds'[j]? = some ds'[j] := List.getElem?_eq_getElem (by omega)
      have := b3 j s _ hj hd'
      rw [hs] at this; cases this
      exact ⟨b, ht, hbox.2 j b _ hb hd'⟩
    · rw [b2 s hm] at hs
      obtain ⟨b, hb, hr⟩ := h.boxes s d hs
      refine ⟨b, hb, hr.world hsub hIy (hkeep b (h.tokLt _ b hb) ?_)⟩
      intro hmy
      obtain ⟨s', hs', ht'⟩ := hys b hmy
      have := h.inj _ _ b hb ht'
      cases this
      exact hm hs'
  case inj => exact h.inj
  case tokLt => exact fun k b hb => Nat.lt_of_lt_of_le (h.tokLt k b hb) hsize
  case tokI =>
    intro k b hb hI
    rcases hnew b hI with h1 | h1
    · exact h.tokI k b hb h1
    · exact absurd (h.tokLt k b hb) (Nat.not_lt.2 h1)
  case ilt => exact hilt
  case fresh => exact h.fresh
  case ext => exact h.ext
  case keep =>
    intro b hb hx
    refine (hkeep b (Nat.lt_of_lt_of_le hb h.size) ?_).trans (h.keep b hb hx)
    intro hm
    obtain ⟨s, _, ht⟩ := hys b hm
    rcases h.fresh _ b ht with h1 | h1
    · omega
    · exact hx h1
  case size => exact Nat.le_trans h.size hsize
  case os => exact hos.trans h.os
  case output => exact hout.trans h.output
  case tape => exact htape.trans h.tape
  case sub => exact fun b hb => hsub b (h.sub b hb)
  case new =>
    intro b hb
    rcases hnew b hb with h1 | h1
    · exact h.new b h1
    · exact .inr (Nat.le_trans h.size h1)
end Go.Own

/- Calls: the arguments. -/
set_option linter.unusedVariables false
namespace Go.Own
variable {P : Program} {E : Env} {w0 w w' : World} {I0 I : Nat → Prop} {xs : List Nat} {st st' : St} {tm : Array Value} {tok : Tok} {ds : List Deferred} {o : Oper}

theorem idxOf_get : ∀ {l : List Nat} {s j : Nat}, l.idxOf? s = some j → l[j]? = some s := by
  intro l s j h
  have := List.idxOf?_eq_some_iff.1 h
  obtain ⟨hj, h1, _⟩ := this
  rw [List.getElem?_eq_getElem hj]
  simpa using h1

theorem argsOf_get {sites : List Nat} : ∀ {vs : List SV} {Ts : List TypeId} {as : List AV}, argsOf E st sites Ts vs = some as →
    as.length = vs.length ∧ ∀ (k : Nat) (a : AV), as[k]? = some a → ∃ v T, vs[k]? = some v ∧ argOf E st sites T v = some a := by
  intro vs
  induction vs with
  | nil => intro Ts as h; cases Ts <;> (simp only [argsOf, Option.some.injEq] at h; subst h; simp)
  | cons v vs ih =>
    intro Ts as h
    have step : ∀ T Ts', (match argOf E st sites T v, argsOf E st sites Ts' vs with | some a, some r => some (a :: r) | _, _ => none) = some as →
        as.length = (v :: vs).length ∧ ∀ (k : Nat) (a : AV), as[k]? = some a → ∃ v' T, (v :: vs)[k]? = some v' ∧ argOf E st sites T v' = some a := by
      intro T Ts' h
      split at h
      · rename_i a r e1 e2
        cases h
        obtain ⟨h1, h2⟩ := ih e2
        refine ⟨by simp [h1], fun k b hk => ?_⟩
        cases k with
        | zero => simp at hk; subst hk; exact ⟨v, T, rfl, e1⟩
        | succ k => simpa using h2 k b (by simpa using hk)
      · cases h
    cases Ts with
    | nil => exact step 0 [] h
    | cons T Ts => exact step T Ts h

/-- Values of arguments: the operands' ones. -/
theorem args_given (hE : EnvOK P E) (h : Inv w0 I0 xs st tm w I tok) {vs : List SV} {Ts : List TypeId} {as : List AV} {bs : List DV} {args : Array Value}
    (ha : argsOf E st (sitesOf vs []) Ts vs = some as) (hb : (sitesOf vs []).mapM st.box = some bs) (hsz : args.size = vs.length)
    (hv : ∀ (k : Nat) (s : SV) (v : Value), vs[k]? = some s → args[k]? = some v → ORep w I tok st tm s v) :
    ∃ I1 tok1 ys, Inv w0 I0 xs (st.freezeAll vs) tm w I1 tok1 ∧ (∀ b, I b → I1 b) ∧ (∀ b, I1 b → b < w.heap.size) ∧ ys.length = (sitesOf vs []).length ∧
      (∀ (j s : Nat), (sitesOf vs [])[j]? = some s → ∃ b, ys[j]? = some b ∧ tok (.box s) = some b ∧ tok1 (.box s) = some b) ∧ Given w I1 ys bs as args := by
  obtain ⟨I1, tok1, h1, h2, h3, h4⟩ := datas_rep (P := P) hE vs h
  obtain ⟨ys, hyl, hys, hyb⟩ := boxes_given h hb
  have hnd : (sitesOf vs []).Nodup := sites_nodup List.nodup_nil
  have hback : ∀ (j b : Nat), ys[j]? = some b → ∃ s, (sitesOf vs [])[j]? = some s ∧ tok (.box s) = some b := by
    intro j b hj
    have hjl : j < (sitesOf vs []).length := by rw [← hyl]; exact (List.getElem?_eq_some_iff.1 hj).1
    obtain ⟨b', hb', ht⟩ := hys j _ (List.getElem?_eq_getElem hjl)
    rw [hj] at hb'; cases hb'
    exact ⟨_, List.getElem?_eq_getElem hjl, ht⟩
  obtain ⟨hal, haget⟩ := argsOf_get ha
  refine ⟨I1, tok1, ys, h1, h2, h1.ilt, hyl, fun j s hs => ?_, ?_⟩
  · obtain ⟨b, hb1, hb2⟩ := hys j s hs
    exact ⟨b, hb1, hb2, by rw [h3]; exact hb2⟩
  · have capG : ∀ {s : SV} {a : AV} {x : Value}, capRep w I tok st s x → (match s with | .pb s t pa => ((sitesOf vs []).idxOf? s).map fun j => AV.xp j t pa | .p d => some (.val d) | _ => none) = some a → capAv w I1 ys bs a x := by
      intro s a x hc hm
      cases s with
      | p d => cases hm; exact valRep.mono h2 (fun _ _ => rfl) hc
      | pb s t pa =>
        obtain ⟨j, hj, rfl⟩ := Option.map_eq_some_iff.1 hm
        obtain ⟨b, off, d, e1, e2, e3, e4, e5⟩ := hc
        have hsj := idxOf_get hj
        obtain ⟨b', hb', ht⟩ := hys j s hsj
        rw [e1] at ht; cases ht
        have hjl := (List.getElem?_eq_some_iff.1 hsj).1
        have hjb : j < bs.length := by rw [(mapM_get hb).1]; exact hjl
        have hbj : bs[j]? = some bs[j] := List.getElem?_eq_getElem hjb
        obtain ⟨s', hs', hbx⟩ := (mapM_get hb).2 j _ hbj
        rw [hsj] at hs'; cases hs'
        rw [e2] at hbx; cases hbx
        exact ⟨b, off, _, hb', hbj, e3, e4, e5⟩
      | _ => cases hm
    constructor
    case nodup =>
      intro i j b hi hj
      obtain ⟨s1, hs1, ht1⟩ := hback i b hi
      obtain ⟨s2, hs2, ht2⟩ := hback j b hj
      have := h.inj _ _ b ht1 ht2
      cases this
      obtain ⟨hi1, e1⟩ := List.getElem?_eq_some_iff.1 hs1
      obtain ⟨hj1, e2⟩ := List.getElem?_eq_some_iff.1 hs2
      have hp := List.pairwise_iff_getElem.1 hnd
      rcases Nat.lt_trichotomy i j with hlt | heq | hgt
      · exact absurd (e1.trans e2.symm) (hp i j hi1 hj1 hlt)
      · exact heq
      · exact absurd (e2.trans e1.symm) (hp j i hj1 hi1 hgt)
    case xI =>
      intro b hb'
      obtain ⟨j, hj⟩ := List.getElem?_of_mem hb'
      obtain ⟨s, _, ht⟩ := hback j b hj
      exact h1.tokI (.box s) b (by rw [h3]; exact ht)
    case xlt =>
      intro b hb'
      obtain ⟨j, hj⟩ := List.getElem?_of_mem hb'
      obtain ⟨s, _, ht⟩ := hback j b hj
      exact h.tokLt _ b ht
    case ilt => exact h1.ilt
    case boxes => exact ⟨hyb.1, fun j b d e1 e2 => (hyb.2 j b d e1 e2).world h2 (fun _ _ => rfl) rfl⟩
    case size => rw [hsz, hal]
    case args =>
      intro k a v hk hkv
      obtain ⟨s, T, hs, hao⟩ := haget k a hk
      have hr := hv k s v hs hkv
      have dat : (dataOf E st T s).map AV.val = some a → avRep w I1 ys bs a v := by
        intro hm
        obtain ⟨d, hd, rfl⟩ := Option.map_eq_some_iff.1 hm
        exact h4 s (List.mem_of_getElem? hs) T v d hr hd
      cases s with
      | pb s t pa =>
        obtain ⟨i, hr'⟩ := hr
        obtain ⟨j, hj, rfl⟩ := Option.map_eq_some_iff.1 (show ((sitesOf vs []).idxOf? s).map (fun j => AV.xp j t pa) = some a from hao)
        exact capG (s := .pb s t pa) hr' (by show Option.map (fun j => AV.xp j t pa) ((sitesOf vs []).idxOf? s) = _; rw [hj]; rfl)
      | clo f caps =>
        obtain ⟨i, ws, e, hl, hc⟩ := hr
        obtain ⟨cs, hcs, rfl⟩ := Option.map_eq_some_iff.1 hao
        obtain ⟨hcl, hcg⟩ := mapM_get hcs
        refine ⟨ws, e, by rw [hl, hcl], fun j c x h5 h6 => ?_⟩
        obtain ⟨s, hsj, hfs⟩ := hcg j c h5
        refine capG (hc j s x hsj h6) ?_
        cases s <;> exact hfs
      | _ => exact dat hao
end Go.Own

/- Calls: the results; the operation. -/
set_option linter.unusedVariables false
namespace Go.Own
variable {P : Program} {E : Env} {w0 w w' : World} {I0 I : Nat → Prop} {xs : List Nat} {st st' : St} {tm : Array Value} {tok : Tok} {ds : List Deferred} {o : Oper}

theorem flat_cells {I2 : Nat → Prop} {w2 : World} : ∀ {t : Ty} {x : t.den} {cs : List Value}, t.flat = true → cellsRep w I t x cs → cellsRep w2 I2 t x cs := by
  intro t
  induction t with
  | pair a b iha ihb =>
    intro x cs hf h
    simp only [Ty.flat, Bool.and_eq_true] at hf
    obtain ⟨c1, c2, e, h1, h2⟩ := h
    exact ⟨c1, c2, e, iha hf.1 h1, ihb hf.2 h2⟩
  | arr n t ih => intro x cs hf h; exact ⟨h.1, h.2.1, fun i y hy => ih hf (h.2.2 i y hy)⟩
  | sl t => intro x cs hf; cases hf
  | ref t => intro x cs hf; cases hf
  | _ => intro x cs _ h; exact h

theorem flat_val {I2 : Nat → Prop} {w2 : World} {t : Ty} {x : t.den} {v : Value} (hf : t.flat = true) (h : valRep w I t x v) : valRep w2 I2 t x v := by
  unfold valRep at *
  split
  · rename_i ha
    rw [if_pos ha] at h
    obtain ⟨cs, e, h⟩ := h
    exact ⟨cs, e, flat_cells hf h⟩
  · rename_i ha
    rw [if_neg ha] at h
    exact flat_cells hf h

theorem flat_rv {I2 : Nat → Prop} {tk : Option Nat} {r : RV} {v : Value} (hf : r.flat = true) (h : rvRep w I tk r v) : rvRep w I2 tk r v := by
  cases r with
  | val d => exact flat_val hf h
  | own t nl l =>
    obtain ⟨ad, cap, e, h1, h2, h3⟩ := h
    refine ⟨ad, cap, e, h1, h2, h3.imp id ?_⟩
    rintro ⟨b, o, h4, h5, cs, h6, h7, h8⟩
    refine ⟨b, o, h4, h5, cs, h6, h7, fun i x hx => ?_⟩
    obtain ⟨c, hc, hv⟩ := h8 i x hx
    exact ⟨c, flat_cells hf hc, hv⟩

/-- The results are put. -/
theorem Inv.putRes (h : Inv w0 I0 xs st tm w I tok) {d : Nat} (hd : d < st.sl.length) {rs : List RV} {vs : Array Value} {tk : Nat → Option Nat} (hl : vs.size = rs.length)
    (htk : ∀ j b, tk j = some b → (∀ k, tok k ≠ some b) ∧ ¬ I b ∧ w0.heap.size ≤ b ∧ b < w.heap.size) (hinj : ∀ i j b, tk i = some b → tk j = some b → i = j)
    (hr : ∀ (j : Nat) (x : RV) (y : Value), rs[j]? = some x → vs[j]? = some y → rvRep w I (tk j) x y) :
    ∃ tok', Inv w0 I0 xs (st.put d (resOf rs)) (tm.setIfInBounds d (retVal vs)) w I tok' := by
  have many : rs.length ≠ 1 → ∃ tok', Inv w0 I0 xs (st.put d (.tup (rs.map resSV))) (tm.setIfInBounds d (retVal vs)) w I tok' := by
    intro hne
    let tok' : Tok := fun k => match k with
      | .tc a j => if a = d then tk j else tok (.tc a j)
      | .sl a => if a = d then none else tok (.sl a)
      | .box s => tok (.box s)
    refine ⟨tok', h.put hd ?_ ?_ ?_⟩
    · intro k hk
      cases k with
      | box s => rfl
      | sl a => simp only [Key.at] at hk; simp [tok', hk]
      | tc a j => simp only [Key.at] at hk; simp [tok', hk]
    · intro k b hk hb
      cases k with
      | box s => exact absurd hk (by simp [Key.at])
      | sl a => simp only [Key.at] at hk; simp [tok', hk] at hb
      | tc a j =>
        simp only [Key.at] at hk; subst hk
        simp only [tok', if_true] at hb
        obtain ⟨h1, h2, h3, h4⟩ := htk j b hb
        refine ⟨h4, h2, h3, fun k' hk' => ?_⟩
        cases k' with
        | box s => exact absurd hk' (h1 _)
        | sl a' =>
          simp only [tok'] at hk'
          split at hk'
          · cases hk'
          · exact absurd hk' (h1 _)
        | tc a' j' =>
          simp only [tok'] at hk'
          split at hk'
          · rename_i e; rw [e, hinj _ _ b hb hk']
          · exact absurd hk' (h1 _)
    · refine ⟨vs, by unfold retVal; rw [dif_neg (by omega)], by simp [hl], fun j c x h2 h3 => ?_⟩
      rw [List.getElem?_map] at h2
      obtain ⟨r, hr1, rfl⟩ := Option.map_eq_some_iff.1 h2
      have := hr j r x hr1 h3
      cases r with
      | val e => exact this
      | own t nl l =>
        show ownVal w I (tok' (.tc d j)) t nl l x
        have e : tok' (.tc d j) = tk j := by simp [tok']
        rw [e]; exact this
  match rs, hl, hr, many with
  | [], hl, hr, many => exact many (by simp)
  | a :: b :: r, hl, hr, many => exact many (by simp)
  | [r], hl, hr, _ =>
    have h1 : vs.size = 1 := hl
    have h0 : vs[0]? = some vs[0] := Array.getElem?_eq_getElem _
    have hv : retVal vs = vs[0] := by unfold retVal; rw [dif_pos h1]
    rw [hv]
    have hrv := hr 0 r vs[0] rfl h0
    cases r with
    | val e => exact ⟨_, h.put_p hd hrv⟩
    | own t nl l =>
      refine ⟨tok.withSl d (tk 0), h.put hd ?_ ?_ ?_⟩
      · intro k hk
        cases k <;> simp_all [Tok.withSl, Key.at]
      · intro k b' hk hb
        cases k with
        | box s => exact absurd hk (by simp [Key.at])
        | tc i j => simp only [Key.at] at hk; simp [Tok.withSl, hk] at hb
        | sl i =>
          simp only [Key.at] at hk; subst hk
          simp only [Tok.withSl, if_true] at hb
          obtain ⟨h2, h3, h4, h5⟩ := htk 0 b' hb
          refine ⟨h5, h3, h4, fun k' hk' => ?_⟩
          cases k' with
          | box s => exact absurd hk' (h2 _)
          | tc a j =>
            simp only [Tok.withSl] at hk'
            split at hk'
            · cases hk'
            · exact absurd hk' (h2 _)
          | sl a =>
            simp only [Tok.withSl] at hk'
            split at hk'
            · rename_i e; rw [e]
            · exact absurd hk' (h2 _)
      · show ownVal w I (Tok.withSl tok d (tk 0) (.sl d)) t nl l _
        have : Tok.withSl tok d (tk 0) (.sl d) = tk 0 := by simp [Tok.withSl]
        rw [this]; exact hrv

theorem setBoxes_sl : ∀ (l : List Nat) (q : List DV) (st : St), (setBoxes st l q).sl = st.sl
  | [], [], _ => rfl
  | [], _ :: _, _ => rfl
  | _ :: _, [], _ => rfl
  | s :: l, d :: q, st => by simp only [setBoxes]; rw [setBoxes_sl l q]; rfl

/-- A call: the state behind it. -/
theorem callS_sound {D : CallD} (hE : EnvOK P E) (hD : SoundD P D) (h : Inv w0 I0 xs st tm w I tok) {dst : Option Nat} (hd : ∀ d, dst = some d → d < st.sl.length) {f : FuncId} {Ts : List TypeId} {vs : List SV} {args : Array Value}
    (hsz : args.size = vs.length) (hv : ∀ (k : Nat) (s : SV) (v : Value), vs[k]? = some s → args[k]? = some v → ORep w I tok st tm s v) (hf : callS E D dst f Ts vs st = some (true, st')) :
    CallsAny P f args w fun v w' => ∃ I' tok', Inv w0 I0 xs st' (putT tm dst v) w' I' tok' := by
  unfold callS at hf
  split at hf
  · rename_i as bs ha hb
    split at hf
    · rename_i c r hDr
      simp only [Option.some.injEq, Prod.mk.injEq] at hf
      obtain ⟨rfl, rfl⟩ := hf
      obtain ⟨I1, tok1, ys, h1, hI1, hlt1, hyl, hys, hgiven⟩ := args_given (P := P) hE h ha hb hsz hv
      have hnd : (sitesOf vs []).Nodup := sites_nodup List.nodup_nil
      have hgood := hD f as bs r hDr w I1 ys args hgiven
      have step : ∀ v w', (∃ I', Left' w I1 ys bs r v w' I') → ∃ I' tok', Inv w0 I0 xs ((setBoxes (bif r.1.all RV.flat && r.2.all (·.1.flat) then st else st.freezeAll vs) (sitesOf vs []) r.2).putO dst (resOf r.1)) (putT tm dst v) w' I' tok' := by
        rintro v w' ⟨I', hL⟩
        obtain ⟨ws, tk, rfl, hwl, htk, hinj, hres⟩ := hL.res
        -- the state behind the call, before the results are put
        have mid : ∃ I2 tok2 st2, st2 = setBoxes (bif r.1.all RV.flat && r.2.all (·.1.flat) then st else st.freezeAll vs) (sitesOf vs []) r.2 ∧ Inv w0 I0 xs st2 tm w' I2 tok2 ∧ st2.sl.length = st.sl.length ∧
            (∀ k b, tok2 k = some b → b < w.heap.size) ∧ (∀ b, I2 b → I' b ∨ b < w.heap.size) ∧ ∀ (j : Nat) (x : RV) (y : Value), r.1[j]? = some x → ws[j]? = some y → rvRep w' I2 (tk j) x y := by
          cases hfl : (r.1.all RV.flat && r.2.all (·.1.flat)) with
          | true =>
            simp only [Bool.and_eq_true, List.all_eq_true] at hfl
            have hbx : BoxesAt w' I ys r.2 := ⟨hL.boxes.1, fun j b d e1 e2 => by
              obtain ⟨cs, q1, q2⟩ := hL.boxes.2 j b d e1 e2
              exact ⟨cs, q1, flat_cells (hfl.2 d (List.mem_of_getElem? e2)) q2⟩⟩
            refine ⟨I, tok, _, rfl, h.afterCall (I2 := I) hnd hyl (fun j s e => by obtain ⟨b, q1, q2, _⟩ := hys j s e; exact ⟨b, q1, q2⟩) hb hL.typ (fun _ hb => hb) (fun _ hb => .inl hb) (fun b hb => Nat.lt_of_lt_of_le (h.ilt b hb) hL.size) hL.keep hL.size hL.os hL.output hL.tape hbx, ?_, h.tokLt, fun b hb => .inr (h.ilt b hb), fun j x y e1 e2 => flat_rv (hfl.1 x (List.mem_of_getElem? e1)) (hres j x y e1 e2)⟩
            simp only [cond_true]
            rw [setBoxes_sl]
          | false =>
            refine ⟨I', tok1, _, rfl, h1.afterCall (I2 := I') hnd hyl (fun j s e => by obtain ⟨b, q1, _, q2⟩ := hys j s e; exact ⟨b, q1, q2⟩) (by rw [show (st.freezeAll vs).box = st.box from funext fun s => box_freeze st vs s]; exact hb) hL.typ hL.sub hL.new hL.ilt hL.keep hL.size hL.os hL.output hL.tape hL.boxes, ?_, h1.tokLt, fun b hb => .inl hb, hres⟩
            simp only [cond_false]
            rw [setBoxes_sl, freezeAll_len]
        obtain ⟨I2, tok2, st2, e2, hinv, hlen2, hlt2, hI2, hres2⟩ := mid
        rw [← e2]
        cases dst with
        | none => exact ⟨I2, tok2, hinv⟩
        | some d =>
          obtain ⟨tok', h3⟩ := hinv.putRes (d := d) (by rw [hlen2]; exact hd d rfl) hwl (fun j b hb' => by
            obtain ⟨q1, q2, q3⟩ := htk j b hb'
            refine ⟨fun k hk => ?_, fun hb2 => ?_, Nat.le_trans h.size q1, q2⟩
            · have := hlt2 k b hk; omega
            · rcases hI2 b hb2 with h4 | h4
              · exact q3 h4
              · omega) hinj hres2
          exact ⟨I2, tok', h3⟩
      rcases hgood with ⟨fn, q1, q2, q3, q4⟩ | ⟨v, w', q1, q2⟩
      · exact .inl ⟨fn, q1, q2, q3, q4.mono fun e w' ⟨v, e1, h5⟩ => ⟨v, e1, step v w' h5⟩⟩
      · exact .inr ⟨v, w', q1, step v w' q2⟩
    · cases hf
  · cases hf
end Go.Own

/- Operations, with calls; regions in their order. -/
set_option linter.unusedVariables false
namespace Go.Own
variable {P : Program} {E : Env} {w0 w w' : World} {I0 I : Nat → Prop} {xs : List Nat} {st st' : St} {tm : Array Value} {tok : Tok} {ds : List Deferred} {o : Oper}

theorem act_put (tm : Array Value) (ds : List Deferred) (d : Option Nat) (v : Value) : (Act.put ⟨tm, ds⟩ d v) = ⟨putT tm d v, ds⟩ := by cases d <;> rfl

theorem call_value {c : Call} {x : Operand} {ρ : Operand → Value} {f : FuncId} {ws : Array Value} (ho : o.op = .call c) (hc : c.callee = .value x) (hx : ρ x = .func (.func f) #[] ws) :
    (execOp ρ o).run P w = (callFunc f (c.args.map ρ ++ ws)).run P w := by
  simp only [execOp, ho, resolve, hc, hx, Deferred.ofValue, Sem.run_bind, Sem.run_pure, Result.andThen_ok, invoke, Array.empty_append]

theorem wp_callsAny {f : FuncId} {args : Array Value} {R : Value → World → Prop} {K : Act → World → Prop} {Q : Exit → Act → World → Prop} {a : Act} (hrun : (execOp a.eval o).run P w = (callFunc f args).run P w) (hc : CallsAny P f args w R)
    (hK : ∀ v w', R v w' → K (a.put o.dst v) w') : o.wp P a w K Q := by
  unfold Oper.wp
  rw [hrun]
  rcases hc with ⟨fn, h1, h2, h3, h4⟩ | ⟨v, w', h1, h2⟩
  · have e : (callFunc f args).run P w = .ok (.enter f args) w := by
      obtain ⟨c, hbc⟩ := Option.isSome_iff_exists.1 h3
      simp [callFunc, h1, hbc, h2]
    rw [e, Oper.upon_enter]
    refine h4.mono fun e w'' ⟨v, he, hR⟩ => ?_
    subst he
    exact hK v w'' hR
  · rw [h1, Oper.upon_value]
    exact hK v w' h2

theorem opD_sound {D : CallD} (hE : EnvOK P E) (hD : SoundD P D) (h : Inv w0 I0 xs st tm w I tok) (hd : ∀ d, o.dst = some d → d < st.sl.length) (hf : opD E D o st = some (true, st'))
    {K : Act → World → Prop} {Q : Exit → Act → World → Prop} (hK : ∀ v w' I' tok', Inv w0 I0 xs st' (putT tm o.dst v) w' I' tok' → K ⟨putT tm o.dst v, ds⟩ w') : o.wp P ⟨tm, ds⟩ w K Q := by
  unfold opD at hf
  split at hf
  · rename_i f Ts vs hcal
    unfold calleeOf at hcal
    split at hcal
    · rename_i c ho
      -- a call of a function whose value is known
      have go : ∀ {x : Operand} {ws : Array Value} {caps : List SV}, c.callee = .value x → Act.eval ⟨tm, ds⟩ x = .func (.func f) #[] ws → vs = c.args.toList.map (ev st) ++ caps → ws.size = caps.length →
          (∀ (j : Nat) (s : SV) (v : Value), caps[j]? = some s → ws[j]? = some v → ORep w I tok st tm s v) → o.wp P ⟨tm, ds⟩ w K Q := by
        intro x ws caps hc hx hvs hwl hcaps
        subst hvs
        have hcall := callS_sound (P := P) hE hD h hd (args := c.args.map (Act.eval ⟨tm, ds⟩) ++ ws) (by simp [hwl]) (fun k s v h1 h2 => by
          rcases Nat.lt_or_ge k c.args.size with hk | hk
          · rw [List.getElem?_append_left (by simpa using hk), List.getElem?_map] at h1
            rw [Array.getElem?_append_left (by simpa using hk), Array.getElem?_map] at h2
            rw [Array.getElem?_toList, Array.getElem?_eq_getElem hk] at h1
            rw [Array.getElem?_eq_getElem hk] at h2
            simp only [Option.map_some, Option.some.injEq] at h1 h2
            subst h1; subst h2
            exact ev_rep h _
          · rw [List.getElem?_append_right (by simpa using hk)] at h1
            rw [Array.getElem?_append_right (by simpa using hk)] at h2
            simp only [List.length_map, Array.length_toList] at h1
            simp only [Array.size_map] at h2
            exact hcaps _ s v h1 h2) hf
        refine wp_callsAny (call_value ho hc hx) hcall fun v w' ⟨I', tok', hi⟩ => ?_
        rw [act_put]
        exact hK v w' I' tok' hi
      split at hcal
      · rename_i g hc
        simp only [Option.some.injEq, Prod.mk.injEq] at hcal
        obtain ⟨rfl, rfl, rfl⟩ := hcal
        exact go (caps := []) hc rfl (by simp) rfl (by simp)
      · rename_i x hnf hc
        split at hcal
        · rename_i g caps hx
          simp only [Option.some.injEq, Prod.mk.injEq] at hcal
          obtain ⟨rfl, rfl, rfl⟩ := hcal
          have hr := ev_rep (ds := ds) h x
          rw [hx] at hr
          obtain ⟨i, ws, e, hl, hcr⟩ := hr
          refine go hc e rfl hl fun j s v h1 h2 => ?_
          have := hcr j s v h1 h2
          cases s with
          | p d => exact ⟨0, this⟩
          | pb s t pa => exact ⟨0, this⟩
          | _ => exact absurd this (by simp [capRep])
        · cases hcal
      · cases hcal
    · cases hcal
  · obtain ⟨v, w', I', tok', hr, hi⟩ := opF_sound (P := P) (ds := ds) hE h hd hf
    unfold Oper.wp
    rcases hr with hr | ⟨hr, rfl⟩
    · rw [hr, Oper.upon_value, act_put]; exact hK v w' I' tok' hi
    · rw [hr, Oper.upon_skip, act_put]; exact hK _ w' I' tok' hi

theorem putT_size (tm : Array Value) (d : Option Nat) (v : Value) : (putT tm d v).size = tm.size := by cases d <;> simp [putT]

theorem wanted_und {ops : Array Oper} {tm : Array Value} {o : Oper} {d : Nat} {want : Bool} (hg : guardOf ops.toList o = some (some (d, want))) (hd : d < tm.size) (hv : tm.getD d undef = undef) : Region.wanted o (yielded ops tm) = false := by
  unfold guardOf at hg
  split at hg
  · cases hg
  · rename_i j want' e
    split at hg
    · rename_i d' e2
      simp only [Option.some.injEq, Prod.mk.injEq] at hg
      obtain ⟨rfl, rfl⟩ := hg
      have e3 : (ops[j]?).bind (·.dst) = some d' := by simpa using e2
      have e4 : tm[d']? = some undef := by
        rw [Array.getElem?_eq_getElem hd]
        have : tm.getD d' undef = tm[d'] := by simp [Array.getD, hd]
        rw [this] at hv; rw [hv]
      simp only [Region.wanted, e, yielded, e3, Option.bind_some, e4, undef]
      rfl
    · cases hg

/-- One operation under its guard: the steps that it comes to. -/
theorem opG_sound {D : CallD} {r : Res} (hE : EnvOK P E) (hD : SoundD P D) {ops : Array Oper} (h : Inv w0 I0 xs st tm w I tok) (hd : ∀ d, o.dst = some d → d < st.sl.length) {k : St → Option Res} (hf : opG E D ops.toList o st k = some r)
    {K : Act → World → Prop} {Q : Exit → Act → World → Prop} (hK : ∀ st' v w' I' tok', k st' = some r → st'.sl.length = st.sl.length → Inv w0 I0 xs st' (putT tm o.dst v) w' I' tok' → K ⟨putT tm o.dst v, ds⟩ w') :
    if Region.wanted o (yielded ops tm) then o.wp P ⟨tm, ds⟩ w K Q else K (Act.put ⟨tm, ds⟩ o.dst undef) w := by
  have hlenOf : ∀ {st2 : St} {v : Value} {w2 : World} {I2 : Nat → Prop} {tok2 : Tok}, Inv w0 I0 xs st2 (putT tm o.dst v) w2 I2 tok2 → st2.sl.length = st.sl.length := fun hi => by rw [hi.len, putT_size, h.len]
  have doK : ∀ {st1 : St}, Inv w0 I0 xs st1 tm w I tok → opK E D o st1 k = some r → o.wp P ⟨tm, ds⟩ w K Q := by
    intro st1 h1 hk
    unfold opK at hk
    split at hk
    · rename_i c st2 hop
      cases c with
      | false => cases hk
      | true =>
        have hk' : k st2 = some r := hk
        exact opD_sound (P := P) (ds := ds) hE hD h1 (fun d hd' => by rw [h1.len, ← h.len]; exact hd d hd') hop (fun v w' I' tok' hi => hK st2 v w' I' tok' hk' (hlenOf hi) hi)
    · cases hk
  have dead : ∀ {st1 : St}, Inv w0 I0 xs st1 tm w I tok → k (st1.putO o.dst .und) = some r → K (Act.put ⟨tm, ds⟩ o.dst undef) w := by
    intro st1 h1 hk
    rw [act_put]
    cases hod : o.dst with
    | none =>
      rw [hod] at hk
      have := hK st1 undef w I tok hk (by rw [h1.len, ← h.len]) (by rw [hod]; exact h1)
      rwa [hod] at this
    | some d =>
      rw [hod] at hk
      have h2 := h1.put_und (d := d) (by rw [h1.len, ← h.len]; exact hd d hod)
      have := hK _ undef w I _ hk (hlenOf (by rw [hod]; exact h2)) (by rw [hod]; exact h2)
      rwa [hod] at this
  unfold opG at hf
  split at hf
  · -- no guard
    rename_i hg
    have hw : Region.wanted o (yielded ops tm) = true := by
      unfold guardOf at hg
      split at hg
      · rename_i e; simp [Region.wanted, e]
      · split at hg <;> cases hg
    rw [if_pos hw]
    exact doK h hf
  · rename_i d want hg
    split at hf
    · rename_i b hb
      have hbl : d < st.sl.length := by
        rcases Nat.lt_or_ge d st.sl.length with hl | hl
        · exact hl
        · rw [slot_ge st d hl] at hb; cases hb
      have hr := h.slots d hbl
      rw [hb] at hr
      have hv : tm.getD d undef = .bool b := valRep_bool.1 hr
      have hw : Region.wanted o (yielded ops tm) = (b == want) := by
        unfold guardOf at hg
        split at hg
        · cases hg
        · rename_i j want' e
          split at hg
          · rename_i d' e2
            simp only [Option.some.injEq, Prod.mk.injEq] at hg
            obtain ⟨rfl, rfl⟩ := hg
            have e3 : (ops[j]?).bind (·.dst) = some d' := by simpa using e2
            have hdt : d' < tm.size := h.len ▸ hbl
            have e4 : tm[d']? = some (.bool b) := by
              rw [Array.getElem?_eq_getElem hdt]
              have : tm.getD d' undef = tm[d'] := by simp [Array.getD, hdt]
              rw [this] at hv; rw [hv]
            simp only [Region.wanted, e, yielded, e3, Option.bind_some, e4]
            cases b <;> cases want' <;> rfl
          · cases hg
      have hset : ∀ b', b' = b → Inv w0 I0 xs { st with sl := st.sl.set d (.p ⟨.bool, b'⟩) } tm w I tok := by
        rintro b' rfl
        have : ({ st with sl := st.sl.set d (.p ⟨.bool, b'⟩) } : St) = st := by
          have : st.sl.set d (.p ⟨.bool, b'⟩) = st.sl := by
            apply List.ext_getElem?
            intro i
            rw [List.getElem?_set]
            split
            · rename_i e; subst e
              have h2 : st.slot d = st.sl[d] := by unfold St.slot; simp [List.getD_eq_getElem?_getD, List.getElem?_eq_getElem hbl]
              rw [List.getElem?_eq_getElem hbl, ← h2, hb]
            · rfl
          rw [this]
        rw [this]; exact h
      rw [hw]
      cases b <;> cases want <;> simp only [cond_true, cond_false] at hf
      · rw [if_pos (by decide)]; exact doK (hset false rfl) hf
      · rw [if_neg (by decide)]; exact dead (hset false rfl) hf
      · rw [if_neg (by decide)]; exact dead (hset true rfl) hf
      · rw [if_pos (by decide)]; exact doK (hset true rfl) hf
    · rename_i hb
      have hbl : d < st.sl.length := by
        rcases Nat.lt_or_ge d st.sl.length with hl | hl
        · exact hl
        · rw [slot_ge st d hl] at hb; cases hb
      have hr := h.slots d hbl
      rw [hb] at hr
      rw [if_neg (by rw [wanted_und hg (h.len ▸ hbl) (by simpa only [SRep] using hr)]; decide)]
      exact dead h hf
    · cases hf
  · cases hf

/-- A region in its order. -/
theorem opsK_sound {D : CallD} {r : Res} (hE : EnvOK P E) (hD : SoundD P D) {ops : Array Oper} {k : St → Option Res} {Q : Exit → Act → World → Prop} {n : Nat} (hk : ∀ st tm w I tok, k st = some r → st.sl.length = n → Inv w0 I0 xs st tm w I tok → Q .normal ⟨tm, ds⟩ w) :
    ∀ (l : List Oper) {st : St} {tm : Array Value} {w : World} {I : Nat → Prop} {tok : Tok}, (∀ o ∈ l, ∀ d, o.dst = some d → d < n) → Inv w0 I0 xs st tm w I tok → st.sl.length = n → opsK E D ops.toList l st k = some r → wpList P ops Q l ⟨tm, ds⟩ w := by
  intro l
  induction l with
  | nil => intro st tm w I tok _ h hn hf; exact hk st tm w I tok hf hn h
  | cons o l ih =>
    intro st tm w I tok hdst h hn hf
    have := opG_sound (P := P) (ds := ds) (o := o) (Q := Q) (K := wpList P ops Q l) hE hD h (fun d hd => by rw [hn]; exact hdst o (by simp) d hd) hf (fun st' v w' I' tok' hk' hl hi =>
      ih (fun o ho => hdst o (by simp [ho])) hi (by rw [hl, hn]) hk')
    unfold wpList
    split
    · rename_i hw; rw [if_pos hw] at this; exact .inl this
    · rename_i hw; rw [if_neg hw] at this; exact this
end Go.Own

/- What an operation's effect says is what the operation does. -/
set_option linter.unusedVariables false
namespace Go.Own
variable {E : Env} {st st' : St} {o : Oper}

theorem runPs_append : ∀ (ps qs : List Pm) (st : St), runPs (ps ++ qs) st = runPs qs (runPs ps st)
  | [], _, _ => rfl
  | p :: ps, qs, st => by simp only [List.cons_append, runPs]; exact runPs_append ps qs _

theorem slot_offE (h i : Nat) (st : St) : ({ st with sl := st.sl.map (SV.offE h) } : St).slot i = SV.offE h (st.slot i) := slot_map st (SV.offE h) rfl i

theorem slot_set' (st : St) (d i : Nat) (v : SV) (hd : i ≠ d) : ({ st with sl := st.sl.set d v } : St).slot i = st.slot i := by
  unfold St.slot
  simp only [List.getD_eq_getElem?_getD, List.getElem?_set]
  rw [if_neg (fun e => hd e.symm)]

theorem freeze_not (st : St) (h : Nat) (hn : ∀ t nl l, st.slot h ≠ .own t nl l) : st.freeze h = st := by
  unfold St.freeze
  split
  · rename_i t nl l e; exact absurd e (hn t nl l)
  · rfl

theorem freezePs_run (st0 : St) : ∀ (hs done : List Nat) (st : St), (∀ h, done.contains h = true → ∀ t nl l, st.slot h ≠ .own t nl l) →
    (∀ h, done.contains h = false → ∀ t nl l, st.slot h = .own t nl l ↔ st0.slot h = .own t nl l) → runPs (freezePs st0 done hs) st = hs.foldl St.freeze st := by
  intro hs
  induction hs with
  | nil => intro done st _ _; rfl
  | cons h hs ih =>
    intro done st h1 h2
    simp only [freezePs, List.foldl_cons]
    cases hc : done.contains h with
    | true =>
      simp only [cond_true]
      rw [freeze_not st h (h1 h hc)]
      exact ih done st h1 h2
    | false =>
      simp only [cond_false]
      split
      · rename_i t nl l e
        have e1 := (h2 h hc t nl l).2 e
        simp only [runPs, Pm.run]
        have hf : st.freeze h = ({ st with sl := (st.sl.map (SV.offE h)).set h (.p ⟨.sl t, l⟩) } : St) := by unfold St.freeze; rw [e1]
        rw [hf]
        have hl : h < st.sl.length := by
          rcases Nat.lt_or_ge h st.sl.length with hl | hl
          · exact hl
          · rw [slot_ge st h hl] at e1; cases e1
        have hsl : ∀ i, ({ st with sl := (st.sl.map (SV.offE h)).set h (.p ⟨.sl t, l⟩) } : St).slot i = if i = h then .p ⟨.sl t, l⟩ else SV.offE h (st.slot i) := by
          intro i
          have := slot_set { st with sl := st.sl.map (SV.offE h) } h i (.p ⟨.sl t, l⟩) (by simpa using hl)
          rw [slot_offE] at this
          exact this
        have hoff : ∀ (v : SV) t nl l, SV.offE h v = .own t nl l ↔ v = .own t nl l := by
          intro v t nl l
          cases v <;> simp only [SV.offE] <;> (try (constructor <;> intro q <;> exact q))
          split <;> (constructor <;> intro q <;> cases q)
        refine ih (h :: done) _ ?_ ?_
        · intro i hi t nl l
          rw [hsl]
          split
          · intro q; cases q
          · rename_i hne
            rw [ne_eq, hoff]
            have : done.contains i = true := by simpa [hne] using hi
            exact h1 i this t nl l
        · intro i hi t nl l
          rw [hsl]
          have hne : i ≠ h ∧ done.contains i = false := by simpa using hi
          rw [if_neg hne.1, hoff]
          exact h2 i hne.2 t nl l
      · rename_i hno
        rw [freeze_not st h (fun t nl l e => hno t nl l ((h2 h hc t nl l).1 e))]
        exact ih done st h1 h2

theorem freezePs_all (st : St) (vs : List SV) : runPs (freezePs st [] (homes vs)) st = st.freezeAll vs :=
  freezePs_run st (homes vs) [] st (fun h hh => by simp at hh) (fun h _ t nl l => Iff.rfl)

theorem insPs_run : ∀ (ss : List Nat) (ds : List DV) (st : St), runPs (insPs ss ds) st = setBoxes st ss ds
  | [], _, _ => by cases ‹List DV› <;> rfl
  | _ :: _, [], _ => rfl
  | s :: ss, d :: ds, st => by simp only [insPs, runPs, setBoxes, Pm.run]; exact insPs_run ss ds _

theorem putCE_run {dst : Option Nat} {c c' : Bool} {v : SV} {e : Ef} (h : putCE dst c v = some (c', e)) : st.putC dst c v = some (c', e.run dst st) := by
  unfold putCE at h
  unfold St.putC
  cases dst with
  | none =>
    simp only [Option.some.injEq, Prod.mk.injEq] at h
    obtain ⟨rfl, rfl⟩ := h
    simp only [Ef.run, runPs]
  | some d =>
    cases hv : v.hang with
    | none =>
      simp only [hv, Option.some.injEq, Prod.mk.injEq] at h
      obtain ⟨rfl, rfl⟩ := h
      simp only [Ef.run, runPs]
    | some h' =>
      simp only [hv] at h
      simp only
      cases hb' : h' == d with
      | true => simp [hb'] at h
      | false =>
        simp only [hb', cond_false, Option.some.injEq, Prod.mk.injEq] at h ⊢
        obtain ⟨rfl, rfl⟩ := h
        exact ⟨rfl, rfl⟩

theorem slot_lt {i : Nat} {v : SV} (h : st.slot i = v) (hv : v ≠ .dead) : i < st.sl.length := by
  rcases Nat.lt_or_ge i st.sl.length with hl | hl
  · exact hl
  · rw [slot_ge st i hl] at h; exact absurd h.symm hv

theorem freezePs_one (st : St) (h : Nat) : runPs (freezePs st [] [h]) st = st.freeze h :=
  freezePs_run st [h] [] st (fun h hh => by simp at hh) (fun h _ t nl l => Iff.rfl)

theorem noHome_freeze {vs : List SV} (h : noHome vs = true) : st.freezeAll vs = st := by
  unfold noHome at h
  unfold St.freezeAll
  rw [List.isEmpty_iff.1 h]; rfl

theorem appendToP_run {T : TypeId} {u : Ty} {ys : List u.den} {t : Ty} {nl : Bool} {l : List t.den} {ps : List Pm} {dst : Option Nat} {c : Bool} {e : Ef} (h : appendToP E T u ys t nl l ps = some (c, e)) :
    appendTo E dst T u ys t nl l (runPs ps st) = some (c, e.run dst st) := by
  unfold appendToP at h
  unfold appendTo
  split at h
  · rename_i hut
    rw [dif_pos hut]
    cases hT : E.isT T (.sl t) with
    | false => simp [hT] at h
    | true =>
      simp only [hT, cond_true, Option.some.injEq, Prod.mk.injEq] at h ⊢
      obtain ⟨rfl, rfl⟩ := h
      exact ⟨rfl, rfl⟩
  · cases h

theorem appendP_run {T : TypeId} {x y : SV} {dst : Option Nat} {c : Bool} {e : Ef} (h : appendP E T x y st = some (c, e)) : appendF E dst T x y st = some (c, e.run dst st) := by
  unfold appendP at h
  unfold appendF
  split at h
  · rename_i u ys hm
    simp only [hm]
    cases x <;> simp only at h <;> try (cases h; done)
    · rename_i g
      split at h <;> try (cases h; done)
      rename_i t nl l hg
      simp only [hg]
      exact appendToP_run h
    · rename_i g t' lo n
      split at h <;> try (cases h; done)
      rename_i t nl l hg
      simp only [hg]
      exact appendToP_run h
    · split at h <;> try (cases h; done)
      rename_i t hT
      simp only [hT]
      exact appendToP_run h
  · cases h

theorem storeP_run {d : DV} {a : SV} {ps : List Pm} (h : storeP st d a = some ps) : storeS st d a = some (runPs ps st) := by
  cases a <;> simp only [storeP] at h <;> try (cases h; done)
  · rename_i s t pa
    simp only [storeS]
    split at h
    · rename_i b hb
      obtain ⟨x, hx, rfl⟩ := Option.map_eq_some_iff.1 h
      simp only [hb, hx]; rfl
    · cases h
  · rename_i q t0 i t pa
    simp only [storeS]
    split at h
    · rename_i u nl l hs
      obtain ⟨x, hx, rfl⟩ := Option.map_eq_some_iff.1 h
      simp only [hs, hx]; rfl
    · cases h

theorem assignP_run {d : Nat} {T : TypeId} {v : SV} {e : Ef} (h : assignP E d T v st = some e) : assignS E d T v st = some (e.run (some d) st) := by
  cases v <;> simp only [assignP] at h <;> simp only [assignS]
  case rf g =>
    split at h
    · cases h
    · rename_i hne
      rw [if_neg hne]
      split at h <;> try (cases h; done)
      · rename_i e1; simp only [Option.some.injEq] at h; subst h; simp only [e1]; rfl
      · rename_i e1; simp only [Option.some.injEq] at h; subst h; simp only [e1]; rfl
  case rs g t lo n =>
    split at h <;> try (cases h; done)
    · rename_i e1
      simp only [e1]
      split at h
      · rename_i hne
        simp only [Option.some.injEq] at h; subst h
        rw [if_pos hne]; rfl
      · rename_i hne
        simp only [Option.some.injEq] at h; subst h
        rw [if_neg hne]
        simp only [Ef.run, freezePs_one]; rfl
    · rename_i e1; simp only [Option.some.injEq] at h; subst h; simp only [e1]; rfl
  case nil =>
    split at h <;> try (cases h; done)
    rename_i e1
    simp only [Option.some.injEq] at h; subst h; simp only [e1]; rfl
  case nilp =>
    split at h <;> try (cases h; done)
    rename_i e1
    simp only [Option.some.injEq] at h; subst h; simp only [e1]; rfl
  case tup l => cases h
  all_goals
    obtain ⟨x, hx, rfl⟩ := Option.map_eq_some_iff.1 h
    rw [putCE_run (c' := x.1) (e := x.2) hx]; rfl

theorem builtinP_run {b : Builtin} {Ts : List TypeId} {vs : List SV} {dst : Option Nat} {c : Bool} {e : Ef} (h : builtinP E b Ts vs st = some (c, e)) : builtinF E dst b Ts vs st = some (c, e.run dst st) := by
  unfold builtinP at h
  unfold builtinF
  split at h
  · split at h
    · rename_i d hd
      simp only [Option.some.injEq, Prod.mk.injEq] at h; obtain ⟨rfl, rfl⟩ := h
      simp only [hd]; rfl
    · cases h
  · split at h
    · rename_i u hu
      simp only [hu]; exact appendP_run h
    · rename_i hu
      simp only [hu]; exact appendP_run h
    · cases h
  · split at h
    · rename_i d hd
      simp only [Option.some.injEq, Prod.mk.injEq] at h; obtain ⟨rfl, rfl⟩ := h
      simp only [hd]; rfl
    · cases h
  · split at h
    · rename_i d hd
      simp only [Option.some.injEq, Prod.mk.injEq] at h; obtain ⟨rfl, rfl⟩ := h
      simp only [hd]; rfl
    · cases h
  · cases h

theorem some_pair {α β : Type} {a a' : α} {b b' : β} (h : some (a, b) = some (a', b')) : a = a' ∧ b = b' := by cases h; exact ⟨rfl, rfl⟩

theorem opP_run {c : Bool} {e : Ef} (h : opP E o st = some (c, e)) : opF E o st = some (c, e.run o.dst st) := by
  cases ho : o.op with
  | move x =>
    simp only [opP, opF, ho] at h ⊢
    cases hx : ev st x with
    | tup l =>
      simp only [hx] at h ⊢
      cases hl : l.all SV.isP with
      | true => simp only [hl, cond_true] at h ⊢; obtain ⟨rfl, rfl⟩ := some_pair h; rfl
      | false =>
        simp only [hl, cond_false] at h ⊢
        cases x <;> simp only at h ⊢ <;> try (cases h; done)
        obtain ⟨rfl, rfl⟩ := some_pair h; rfl
    | nil =>
      simp only [hx] at h ⊢
      split at h <;> try (cases h; done)
      rename_i d hd
      obtain ⟨rfl, rfl⟩ := some_pair h
      simp only [hd]; rfl
    | nilp =>
      simp only [hx] at h ⊢
      split at h <;> try (cases h; done)
      rename_i d hd
      obtain ⟨rfl, rfl⟩ := some_pair h
      simp only [hd]; rfl
    | _ => simp only [hx] at h ⊢; exact putCE_run h
  | assign x =>
    simp only [opP, opF, ho] at h ⊢
    cases hd : o.dst with
    | none => simp [hd] at h
    | some d =>
      simp only [hd] at h ⊢
      split at h <;> try (cases h; done)
      rename_i e' he
      obtain ⟨rfl, rfl⟩ := some_pair h
      simp only [assignP_run he]
  | pick a b q =>
    simp only [opP, opF, ho] at h ⊢
    split at h <;> try (cases h; done)
    rename_i c' d hp
    obtain ⟨rfl, rfl⟩ := some_pair h
    simp only [hp]; rfl
  | alloc T =>
    simp only [opP, opF, ho] at h ⊢
    split at h <;> try (cases h; done)
    rename_i t d ht hd
    obtain ⟨rfl, rfl⟩ := some_pair h
    simp only [ht, hd]; rfl
  | box T x =>
    simp only [opP, opF, ho] at h ⊢
    split at h <;> try (cases h; done)
    rename_i v d t hv hd ht
    split at h <;> try (cases h; done)
    rename_i hvt
    obtain ⟨rfl, rfl⟩ := some_pair h
    simp only [hv, hd, ht, hvt, if_true, Ef.run, runPs_append, freezePs_all]; rfl
  | build T parts =>
    simp only [opP, opF, ho] at h ⊢
    split at h <;> try (cases h; done)
    rename_i t ht
    simp only [ht]
    split at h <;> try (cases h; done)
    rename_i y hy
    obtain ⟨rfl, rfl⟩ := some_pair h
    simp only [hy, Ef.run, freezePs_all]
  | buildSlice T n parts =>
    simp only [opP, opF, ho] at h ⊢
    split at h <;> try (cases h; done)
    rename_i t ht
    simp only [ht]
    split at h <;> try (cases h; done)
    rename_i y hy
    obtain ⟨rfl, rfl⟩ := some_pair h
    simp only [hy, Ef.run, freezePs_all]
  | load T a =>
    simp only [opP, opF, ho] at h ⊢
    split at h <;> try (cases h; done)
    rename_i d hd
    simp only [hd]
    cases hT : E.isT T d.1 <;> simp only [hT, cond_true, cond_false] at h ⊢ <;> try (cases h; done)
    obtain ⟨rfl, rfl⟩ := some_pair h; rfl
  | store T a x =>
    simp only [opP, opF, ho] at h ⊢
    split at h <;> try (cases h; done)
    rename_i d hd
    have hd' : (match o.dst with | none => dataOf E st T (ev st x) | some _ => none) = some d := hd
    cases hod : o.dst with
    | some q => simp [hod] at hd
    | none =>
    simp only [hod] at hd ⊢
    simp only [hd]
    cases hT : E.isT T d.1 <;> simp only [hT, Bool.true_and, Bool.false_and, cond_true, cond_false] at h ⊢ <;> try (cases h; done)
    cases hn : noHome [ev st x] <;> simp only [hn, cond_true, cond_false] at h <;> try (cases h; done)
    rw [noHome_freeze hn]
    split at h <;> try (cases h; done)
    rename_i ps hps
    obtain ⟨rfl, rfl⟩ := some_pair h
    simp only [storeP_run hps]; rfl
  | nilCheck x =>
    simp only [opP, opF, ho] at h ⊢
    split at h <;> try (cases h; done)
    · rename_i e1; obtain ⟨rfl, rfl⟩ := some_pair h; simp only [e1]; rfl
    · rename_i e1; simp only [e1]; exact putCE_run h
    · rename_i e1; obtain ⟨rfl, rfl⟩ := some_pair h; simp only [e1]; rfl
    · rename_i e1; obtain ⟨rfl, rfl⟩ := some_pair h; simp only [e1]; rfl
  | binOp op T x y T' =>
    simp only [opP, opF, ho] at h ⊢
    split at h <;> try (cases h; done)
    rename_i c' d hp
    obtain ⟨rfl, rfl⟩ := some_pair h
    simp only [hp]; rfl
  | unOp op T x =>
    simp only [opP, opF, ho] at h ⊢
    split at h <;> try (cases h; done)
    rename_i d hp
    obtain ⟨rfl, rfl⟩ := some_pair h
    simp only [hp]; rfl
  | convert S T x =>
    simp only [opP, opF, ho] at h ⊢
    split at h
    · rename_i e1 e2
      simp only [e1, e2]
      split at h <;> try (cases h; done)
      rename_i s e3
      obtain ⟨rfl, rfl⟩ := some_pair h
      simp only [e3]; rfl
    · rename_i e1 e2
      simp only [e1, e2]
      split at h <;> try (cases h; done)
      rename_i s e3
      obtain ⟨rfl, rfl⟩ := some_pair h
      simp only [e3]; rfl
    · rename_i s t n1 n2 e1 e2
      split at h <;> try (cases h; done)
      rename_i v e3
      obtain ⟨rfl, rfl⟩ := some_pair h
      split
      · rename_i q1 q2; rw [e1] at q1; rw [e2] at q2; cases q1; cases q2; exact absurd rfl (fun q => n1 rfl q)
      · rename_i q1 q2; rw [e1] at q1; rw [e2] at q2; cases q1; cases q2; exact absurd rfl (fun q => n2 rfl q)
      · rename_i q1 q2; rw [e1] at q1; rw [e2] at q2; cases q1; cases q2
        simp only [e3]; rfl
      · rename_i q; exact absurd e2 (q _ _ e1)
    · cases h
  | makeFunc f first caps =>
    cases f <;> simp only [opP, opF, ho] at h ⊢ <;> try (cases h; done)
    split at h <;> try (cases h; done)
    rename_i cs hcs
    obtain ⟨rfl, rfl⟩ := some_pair h
    rw [hcs]
    simp only [Ef.run, freezePs_all]
  | makeSlice T l q =>
    simp only [opP, opF, ho] at h ⊢
    split at h <;> try (cases h; done)
    rename_i e1 e2 e3
    obtain ⟨rfl, rfl⟩ := some_pair h
    simp only [e1, e2, e3]; rfl
  | slice T x lo hi mx =>
    cases mx <;> simp only [opP, opF, ho] at h ⊢ <;> try (cases h; done)
    split at h <;> try (cases h; done)
    rename_i c' v t e1
    simp only [e1]
    cases hT : E.isT T t <;> simp only [hT, cond_true, cond_false] at h ⊢ <;> try (cases h; done)
    exact putCE_run h
  | fieldAddr T x f =>
    simp only [opP, opF, ho] at h ⊢
    split at h <;> try (cases h; done)
    rename_i v t e1 e2
    simp only [e1, e2]
    cases hT : E.isT T t && nzT v <;> simp only [hT, cond_true, cond_false] at h ⊢ <;> try (cases h; done)
    exact putCE_run h
  | field T x f =>
    simp only [opP, opF, ho] at h ⊢
    split at h <;> try (cases h; done)
    rename_i d e1
    simp only [e1]
    split at h <;> try (cases h; done)
    rename_i r e2
    simp only [e2]
    cases hT : E.isT T d.1 <;> simp only [hT, cond_true, cond_false] at h ⊢ <;> try (cases h; done)
    obtain ⟨rfl, rfl⟩ := some_pair h; rfl
  | indexAddr T x i =>
    simp only [opP, opF, ho] at h ⊢
    split at h <;> try (cases h; done)
    rename_i c' v e1
    simp only [e1]
    exact putCE_run h
  | index T x i =>
    simp only [opP, opF, ho] at h ⊢
    split at h <;> try (cases h; done)
    · rename_i e1 e2
      simp only [e1, e2]
      cases hT : E.isT T .str <;> simp only [hT, cond_true, cond_false] at h ⊢ <;> try (cases h; done)
      obtain ⟨rfl, rfl⟩ := some_pair h; rfl
    · rename_i n t l k i' e1 e2
      simp only [e1, e2]
      cases hT : E.isT T (.arr n t) <;> simp only [hT, cond_true, cond_false] at h ⊢ <;> try (cases h; done)
      obtain ⟨rfl, rfl⟩ := some_pair h; rfl
  | extract t j =>
    cases t <;> simp only [opP, opF, ho] at h ⊢ <;> try (cases h; done)
    split at h <;> try (cases h; done)
    rename_i l e1
    simp only [e1]
    split at h <;> try (cases h; done)
    · rename_i d e2
      obtain ⟨rfl, rfl⟩ := some_pair h
      simp only [e2]; rfl
    · rename_i t nl s e2
      obtain ⟨rfl, rfl⟩ := some_pair h
      simp only [e2]; rfl
  | call q =>
    simp only [opP, opF, ho] at h ⊢
    split at h <;> try (cases h; done)
    rename_i b hb
    simp only [hb]
    exact builtinP_run h
  | _ => simp only [opP, ho] at h; cases h

theorem callP_run {D : CallD} {f : FuncId} {Ts : List TypeId} {vs : List SV} {dst : Option Nat} {c : Bool} {e : Ef} (h : callP E D f Ts vs st = some (c, e)) : callS E D dst f Ts vs st = some (c, e.run dst st) := by
  unfold callP at h
  unfold callS
  split at h <;> try (cases h; done)
  rename_i as bs e1 e2
  simp only [e1, e2]
  split at h <;> try (cases h; done)
  rename_i c' r e3
  obtain ⟨rfl, rfl⟩ := some_pair h
  simp only [e3, Ef.run, runPs_append, insPs_run]
  cases (r.1.all RV.flat && r.2.all (·.1.flat))
  · simp only [cond_false, freezePs_all]
  · rfl

theorem opPD_run {D : CallD} {c : Bool} {e : Ef} (h : opPD E D o st = some (c, e)) : opD E D o st = some (c, e.run o.dst st) := by
  unfold opPD at h
  unfold opD
  split at h
  · rename_i e1
    simp only [e1]
    cases hc : capsOK st o <;> simp only [hc, cond_true, cond_false] at h
    · cases h
    · exact callP_run h
  · rename_i e1; simp only [e1]; exact opP_run h
end Go.Own

/- Steps of a state: what they leave, and which of them go in either order. -/
set_option linter.unusedVariables false
set_option linter.unusedSimpArgs false
namespace Go.Own
variable {E : Env} {st st' : St} {o : Oper}

theorem fullPs_run (dst : Option Nat) (e : Ef) (st : St) : runPs (fullPs dst e st) st = e.run dst st := by
  unfold fullPs Ef.run
  cases e.v with
  | none => rfl
  | some v =>
    cases dst with
    | none => rfl
    | some d =>
      simp only [runPs_append, St.putO]
      unfold St.put
      cases ((runPs e.ps st).slot d).isHome <;> rfl

def nodisj (T : List Nat) (v : SV) : Prop := ∀ x ∈ refs v, x ∉ T

/-- A value that was turned by what touches T. -/
structure Tch (T : List Nat) (u v : SV) : Prop where
  a : nodisj T u → v = u
  b : v ≠ .dead → nodisj T v → u = v
  p : (∃ d, u = .p d) ↔ (∃ d, v = .p d)
  h : u.isHome = v.isHome
  z : u = .dead → v = .dead

theorem Tch.refl (T : List Nat) (u : SV) : Tch T u u := ⟨fun _ => rfl, fun _ _ => rfl, Iff.rfl, rfl, id⟩
theorem Tch.trans {T : List Nat} {u v w : SV} (h : Tch T u v) (k : Tch T v w) : Tch T u w where
  a := fun hu => by have := h.a hu; subst this; exact k.a hu
  b := fun hd hw => by have := k.b hd hw; subst this; exact h.b hd hw
  p := h.p.trans k.p
  h := h.h.trans k.h
  z := fun hu => k.z (h.z hu)
theorem Tch.mono {T T' : List Nat} {u v : SV} (h : Tch T u v) (hs : ∀ x ∈ T, x ∈ T') : Tch T' u v where
  a := fun hu => h.a fun x hx hT => hu x hx (hs x hT)
  b := fun hd hw => h.b hd fun x hx hT => hw x hx (hs x hT)
  p := h.p
  h := h.h
  z := h.z

/-- A map of values that is a step's. -/
def Pm.map : Pm → SV → SV
  | .off h, v => SV.off h v
  | .offE h, v => SV.offE h v
  | .offB s, v => SV.offB s v
  | .ren h d, v => SV.ren h d v
  | _, v => v

theorem Pm.map_dead (p : Pm) : p.map .dead = .dead := by cases p <;> rfl

theorem Pm.map_tch (p : Pm) (u : SV) : Tch p.tc u (p.map u) := by
  cases p with
  | set i v => exact Tch.refl _ _
  | ins s d => exact Tch.refl _ _
  | off h =>
    cases u <;> simp only [Pm.map, SV.off] <;> first | exact Tch.refl _ _ | skip
    all_goals
      split
      · rename_i e
        subst e; exact ⟨fun hn => absurd (by simp [Pm.tc]) (hn _ (List.mem_singleton.2 rfl)), fun hd => absurd rfl hd, by simp, rfl, fun q => by cases q⟩
      · exact Tch.refl _ _
  | offE h =>
    cases u <;> simp only [Pm.map, SV.offE] <;> first | exact Tch.refl _ _ | skip
    all_goals
      split
      · rename_i e
        subst e; exact ⟨fun hn => absurd (by simp [Pm.tc]) (hn _ (List.mem_singleton.2 rfl)), fun hd => absurd rfl hd, by simp, rfl, fun q => by cases q⟩
      · exact Tch.refl _ _
  | offB s =>
    cases u <;> simp only [Pm.map, SV.offB] <;> first | exact Tch.refl _ _ | skip
    · split
      · rename_i e
        subst e; exact ⟨fun hn => absurd (by simp [Pm.tc]) (hn _ (List.mem_singleton.2 rfl)), fun hd => absurd rfl hd, by simp, rfl, fun q => by cases q⟩
      · exact Tch.refl _ _
    · rename_i f caps
      split
      · rename_i e
        refine ⟨fun hn => ?_, fun hd => absurd rfl hd, by simp, rfl, fun q => by cases q⟩
        exfalso
        obtain ⟨c, hc, hcs⟩ := List.any_eq_true.1 e
        cases c <;> simp at hcs
        rename_i r t pa
        exact hn r (by simp only [refs]; exact List.mem_filterMap.2 ⟨_, hc, rfl⟩) (by simp [Pm.tc, hcs])
      · exact Tch.refl _ _
  | ren h d =>
    cases u <;> simp only [Pm.map, SV.ren] <;> first | exact Tch.refl _ _ | skip
    all_goals
      split
      · rename_i e
        subst e; exact ⟨fun hn => absurd (by simp [Pm.tc]) (hn _ (List.mem_singleton.2 rfl)), fun _ hn => absurd (by simp [Pm.tc]) (hn d (List.mem_singleton.2 rfl)), by simp, rfl, fun q => by cases q⟩
      · exact Tch.refl _ _

theorem Pm.run_len (p : Pm) (st : St) : (p.run st).sl.length = st.sl.length := by cases p <;> simp [Pm.run, St.setBox]
theorem runPs_len : ∀ (ps : List Pm) (st : St), (runPs ps st).sl.length = st.sl.length
  | [], _ => rfl
  | p :: ps, st => by simp only [runPs]; rw [runPs_len ps, Pm.run_len]

theorem Pm.run_slot (p : Pm) (st : St) (k : Nat) (hk : k ∉ p.ws) : (p.run st).slot k = p.map (st.slot k) := by
  cases p with
  | set i v =>
    have : k ≠ i := by simpa [Pm.ws] using hk
    exact slot_set' st i k v this
  | ins s d => rfl
  | off h => exact slot_map st _ rfl k
  | offE h => exact slot_map st _ rfl k
  | offB h => exact slot_map st _ rfl k
  | ren h d => exact slot_map st _ rfl k

theorem Pm.run_box (p : Pm) (st : St) (s : Nat) (hs : s ∉ p.wb) : (p.run st).box s = st.box s := by
  cases p with
  | ins r d =>
    have : s ≠ r := by simpa [Pm.wb] using hs
    simp only [Pm.run, box_setBox, if_neg this]
  | _ => rfl

theorem runPs_slot : ∀ (ps : List Pm) (st : St) (k : Nat), k ∉ ps.flatMap Pm.ws → Tch (ps.flatMap Pm.tc) (st.slot k) ((runPs ps st).slot k)
  | [], st, k, _ => Tch.refl _ _
  | p :: ps, st, k, hk => by
    simp only [List.flatMap_cons, List.mem_append, not_or] at hk
    simp only [runPs, List.flatMap_cons]
    refine Tch.trans (v := (p.run st).slot k) ?_ ?_
    · rw [Pm.run_slot p st k hk.1]
      exact (Pm.map_tch p _).mono fun x hx => List.mem_append_left _ hx
    · exact (runPs_slot ps (p.run st) k hk.2).mono fun x hx => List.mem_append_right _ hx

theorem runPs_box : ∀ (ps : List Pm) (st : St) (s : Nat), s ∉ ps.flatMap Pm.wb → (runPs ps st).box s = st.box s
  | [], _, _, _ => rfl
  | p :: ps, st, s, hs => by
    simp only [List.flatMap_cons, List.mem_append, not_or] at hs
    simp only [runPs]
    rw [runPs_box ps _ s hs.2, Pm.run_box p st s hs.1]

/-- Steps on two states: a slot stays a home in both, or in none. -/
theorem runPs_home : ∀ (ps : List Pm) (st st' : St) (k : Nat), st.sl.length = st'.sl.length → (st.slot k).isHome = (st'.slot k).isHome → ((runPs ps st).slot k).isHome = ((runPs ps st').slot k).isHome
  | [], _, _, _, _, h => h
  | p :: ps, st, st', k, hl, h => by
    simp only [runPs]
    refine runPs_home ps _ _ k (by rw [Pm.run_len, Pm.run_len, hl]) ?_
    by_cases hk : k ∈ p.ws
    · cases p <;> simp only [Pm.ws, List.mem_singleton, List.not_mem_nil] at hk
      subst hk
      rename_i v
      simp only [Pm.run]
      rcases Nat.lt_or_ge k st.sl.length with hlt | hge
      · rw [slot_set st k k v hlt, slot_set st' k k v (hl ▸ hlt)]; simp
      · rw [slot_ge _ k (by simpa using hge), slot_ge _ k (by simpa using hl ▸ hge)]
    · rw [Pm.run_slot p st k hk, Pm.run_slot p st' k hk, ← (Pm.map_tch p _).h, ← (Pm.map_tch p _).h, h]

/-- These two go in either order. -/
def Pm.free (p q : Pm) : Prop :=
  (∀ x ∈ p.ws, x ∉ q.ws) ∧ (∀ x ∈ p.wb, x ∉ q.wb) ∧ (∀ x ∈ p.tc, x ∉ q.wr) ∧ (∀ x ∈ q.tc, x ∉ p.wr) ∧ (∀ x ∈ p.tc, x ∉ q.tc)

theorem insB_comm (s r : Nat) (d e : DV) (h : s ≠ r) : ∀ l, insB s d (insB r e l) = insB r e (insB s d l) := by
  have beq : ∀ a b : Nat, Nat.beq a b = decide (a = b) := fun a b => by
    cases hb : Nat.beq a b
    · simp [Nat.ne_of_beq_eq_false hb]
    · simp [Nat.eq_of_beq_eq_true hb]
  have blt : ∀ a b : Nat, Nat.blt a b = decide (a < b) := fun a b => by
    cases hb : decide (a < b)
    · have := of_decide_eq_false hb
      cases hc : Nat.blt a b
      · rfl
      · exact absurd (Nat.le_of_ble_eq_true hc) this
    · have := of_decide_eq_true hb
      exact Nat.ble_eq_true_of_le this
  intro l
  induction l with
  | nil =>
    simp only [insB, beq, blt]
    by_cases h1 : s < r
    · have : ¬ r < s := by omega
      have h2 : ¬ r = s := by omega
      simp [h, h1, this, h2, insB, beq, blt]
    · have : r < s := by omega
      have h2 : ¬ r = s := by omega
      simp [h, h1, this, h2, insB, beq, blt]
  | cons x l ih =>
    obtain ⟨k, y⟩ := x
    have h2 : ¬ r = s := fun q => h q.symm
    simp only [insB, beq, blt]
    by_cases e1 : k = s
    · subst e1
      by_cases e3 : r < k
      · simp [insB, beq, blt, h, h2, e3, show ¬ k < r by omega]
      · simp [insB, beq, blt, h, h2, e3]
    · by_cases e2 : k = r
      · subst e2
        by_cases e3 : s < k
        · simp [insB, beq, blt, h, h2, e3, e1, show ¬ k < s by omega]
        · simp [insB, beq, blt, h, h2, e3, e1]
      · by_cases e3 : s < k
        · by_cases e4 : r < k
          · by_cases e5 : s < r
            · simp [insB, beq, blt, h, h2, e1, e2, e3, e4, e5, show ¬ r < s by omega]
            · simp [insB, beq, blt, h, h2, e1, e2, e3, e4, e5, show r < s by omega]
          · simp [insB, beq, blt, h, h2, e1, e2, e3, e4, show s < r by omega, show ¬ r < s by omega]
        · by_cases e4 : r < k
          · simp [insB, beq, blt, h, h2, e1, e2, e3, e4, show r < s by omega, show ¬ s < r by omega]
          · simp [insB, beq, blt, h, h2, e1, e2, e3, e4, ih]

def Pm.isRen : Pm → Bool
  | .ren _ _ => true
  | _ => false

theorem map_idead {p : Pm} (h : p.isRen = false) (u : SV) : p.map u = u ∨ p.map u = .dead := by
  cases p with
  | ren => cases h
  | off h => cases u <;> simp only [Pm.map, SV.off, true_or] <;> split <;> simp
  | offE h => cases u <;> simp only [Pm.map, SV.offE, true_or] <;> split <;> simp
  | offB h => cases u <;> simp only [Pm.map, SV.offB, true_or] <;> split <;> simp
  | _ => exact .inl rfl

theorem ren_cases (h d : Nat) (u : SV) : (Pm.ren h d).map u = u ∨ (refs u = [h] ∧ refs ((Pm.ren h d).map u) = [d] ∧ u.isHome = false) := by
  cases u <;> simp only [Pm.map, SV.ren, true_or]
  all_goals
    split
    · rename_i e; exact .inr ⟨by simp [refs, e], rfl, rfl⟩
    · exact .inl rfl

theorem tch_nodisj {p : Pm} {u : SV} (h : ∀ x ∈ refs u, x ∉ p.tc) : p.map u = u := (Pm.map_tch p u).a h

theorem map_comm_ren {h d : Nat} {q : Pm} (hq : h ∉ q.tc ∧ d ∉ q.tc) (hr : ∀ a b, q = .ren a b → a ≠ d ∧ b ≠ h) (u : SV) : (Pm.ren h d).map (q.map u) = q.map ((Pm.ren h d).map u) := by
  rcases ren_cases h d u with e | ⟨e1, e2, e3⟩
  · rw [e]
    rcases ren_cases h d (q.map u) with e' | ⟨f1, f2, f3⟩
    · exact e'
    · -- q made something that hangs on h
      have : q.map u = u := by
        refine (Pm.map_tch q u).b (fun z => by rw [z] at f1; cases f1) (fun x hx => ?_) |>.symm
        rw [f1] at hx; rw [List.mem_singleton.1 hx]; exact hq.1
      rw [this]; exact e
  · have q1 : q.map u = u := tch_nodisj fun x hx => by rw [e1] at hx; rw [List.mem_singleton.1 hx]; exact hq.1
    have q2 : q.map ((Pm.ren h d).map u) = (Pm.ren h d).map u := tch_nodisj fun x hx => by rw [e2] at hx; rw [List.mem_singleton.1 hx]; exact hq.2
    rw [q1, q2]

theorem map_comm {p q : Pm} (h : ∀ x ∈ p.tc, x ∉ q.tc) (u : SV) : p.map (q.map u) = q.map (p.map u) := by
  cases hp : p.isRen with
  | true =>
    cases p <;> simp only [Pm.isRen] at hp <;> try (cases hp; done)
    rename_i a b
    exact map_comm_ren ⟨h a (by simp [Pm.tc]), h b (by simp [Pm.tc])⟩ (fun c e hq => by subst hq; have := h a (by simp [Pm.tc]); have := h b (by simp [Pm.tc]); simp [Pm.tc] at *; exact ⟨fun q => by simp_all, fun q => by simp_all⟩) u
  | false =>
    cases hq : q.isRen with
    | true =>
      cases q <;> simp only [Pm.isRen] at hq <;> try (cases hq; done)
      rename_i a b
      exact (map_comm_ren (q := p) ⟨fun ha => h a ha (by simp [Pm.tc]), fun ha => h b ha (by simp [Pm.tc])⟩ (fun c e hq => by subst hq; cases hp) u).symm
    | false =>
      rcases map_idead hp u with e1 | e1 <;> rcases map_idead hq u with e2 | e2
      · rw [e1, e2, e1]
      · rw [e1, e2, Pm.map_dead]
      · rw [e1, e2, e1, Pm.map_dead]
      · rw [e1, e2, Pm.map_dead, Pm.map_dead]

def Pm.isMap : Pm → Bool
  | .set _ _ => false
  | .ins _ _ => false
  | _ => true
theorem Pm.run_map {p : Pm} (h : p.isMap = true) (st : St) : p.run st = { st with sl := st.sl.map p.map } := by
  cases p <;> first | rfl | cases h

theorem free_comm {p q : Pm} (h : p.free q) (st : St) : p.run (q.run st) = q.run (p.run st) := by
  obtain ⟨h1, h2, h3, h4, h5⟩ := h
  cases hp : p.isMap with
  | true =>
    cases hq : q.isMap with
    | true =>
      rw [Pm.run_map hp, Pm.run_map hq, Pm.run_map hq, Pm.run_map hp]
      simp only [List.map_map]
      congr 1
      exact List.map_congr_left fun u _ => map_comm h5 u
    | false =>
      cases q <;> simp only [Pm.isMap] at hq <;> try (cases hq; done)
      · rename_i i v
        rw [Pm.run_map hp, Pm.run_map hp]
        simp only [Pm.run, List.map_set]
        rw [tch_nodisj (p := p) (u := v) fun x hx hT => h3 x hT (by simpa [Pm.wr] using hx)]
      · rw [Pm.run_map hp, Pm.run_map hp]; rfl
  | false =>
    cases hq : q.isMap with
    | true =>
      cases p <;> simp only [Pm.isMap] at hp <;> try (cases hp; done)
      · rename_i i v
        rw [Pm.run_map hq, Pm.run_map hq]
        simp only [Pm.run, List.map_set]
        rw [tch_nodisj (p := q) (u := v) fun x hx hT => h4 x hT (by simpa [Pm.wr] using hx)]
      · rw [Pm.run_map hq, Pm.run_map hq]; rfl
    | false =>
      cases p <;> simp only [Pm.isMap] at hp <;> try (cases hp; done)
      all_goals cases q <;> simp only [Pm.isMap] at hq <;> try (cases hq; done)
      · rename_i i v j u
        have hij : i ≠ j := by simpa [Pm.ws] using h1
        simp only [Pm.run]
        rw [List.set_comm _ _ (fun e => hij e.symm)]
      · rfl
      · rfl
      · rename_i s d r e
        have hsr : s ≠ r := by simpa [Pm.wb] using h2
        simp only [Pm.run, St.setBox]
        rw [insB_comm s r d e hsr]

theorem free_run : ∀ (ps : List Pm) (q : Pm) (st : St), (∀ p ∈ ps, p.free q) → runPs ps (q.run st) = q.run (runPs ps st)
  | [], _, _, _ => rfl
  | p :: ps, q, st, h => by
    simp only [runPs]
    rw [free_comm (h p (by simp)), free_run ps q _ fun x hx => h x (by simp [hx])]

theorem frees_run : ∀ (qs ps : List Pm) (st : St), (∀ p ∈ ps, ∀ q ∈ qs, p.free q) → runPs ps (runPs qs st) = runPs qs (runPs ps st)
  | [], _, _, _ => rfl
  | q :: qs, ps, st, h => by
    simp only [runPs]
    rw [frees_run qs ps _ fun p hp x hx => h p hp x (by simp [hx]), free_run ps q st fun p hp => h p hp q (by simp)]
end Go.Own
