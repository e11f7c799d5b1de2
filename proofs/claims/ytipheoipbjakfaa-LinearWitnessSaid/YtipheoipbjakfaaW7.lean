/- What is proved: the evaluator of the translated code, and that it is sound, part 7. Conditions: those that each theorem names. -/
import Derived.Test.YtipheoipbjakfaaW6
import Derived.Great.FillDense
import Derived.Laws.MakeOwn
import Derived.Great.BuildSlice
import Derived.Laws.IdiomStrings
import Derived.Laws.BytesArg
import Derived.MapKept
set_option linter.unusedVariables false
set_option linter.unusedSimpArgs false
/- Operations, one by one: new arrays, literals. -/
set_option linter.unusedVariables false
namespace Go.Own
variable {C : Cx} {P : Program} {E : Env} {w w' w2 : World} {I I' : Nat → Prop} {st sv : St} {tm : Array Value} {tk tk' : Toks} {ds : List Deferred} {o : Oper} {e : Ef}

/-- A new own array. -/
theorem Inv.newDyn (h : Inv C st tm w I tk) {d : Nat} (hd : d < st.sl.length) (g : Grew w w2) (hlt : w.heap.size < w2.heap.size) {T : TypeId} {cs : List Value} (hb : Blk w2 w.heap.size T cs) {t : Ty} (hT : TyAt C.P T t) (hp : t.plain = true)
    {l : List t.den} {cap : Nat} (hcap : l.length ≤ cap) (hroom : cap * t.size ≤ cs.length) (hel : ∀ i x, l[i]? = some x → ∃ c', cellsRep w I tk t x c' ∧ ∀ j v, c'[j]? = some v → cs[i * t.size + j]? = some v) :
    ∃ tk', Inv C (runPs (newPs d ⟨.dyn t, (false, l)⟩) st) tm w2 I tk' ∧ SRep w2 I tk' (.va d t) (.slice (some ⟨w.heap.size, 0, none⟩) l.length cap) := by
  have h1 := (h.kill d).grow g
  have hr : BoxRep w2 I tk ⟨some w.heap.size, 0, some ⟨w.heap.size, 0, none⟩, l.length, cap, .dyn t, T⟩ ⟨.dyn t, (false, l)⟩ := by
    refine ⟨rfl, hp, rfl, hcap, by simp, .inr ⟨w.heap.size, rfl, rfl, cs, hb, (by show 0 + cap * t.size ≤ cs.length; omega), fun i x hx => ?_⟩⟩
    obtain ⟨c', h2, h3⟩ := hel i x hx
    exact ⟨c', h2.mono (fun _ hb => hb) (fun b hb => g.block b (h.ilt b hb)) (Toks.le.refl _), fun j v hj => by rw [Nat.zero_add]; exact h3 j v hj⟩
  have h2 := h1.newBox (s := d) (fun j => site_ne h.small hd) (free_kill st d) (List.not_mem_nil) (q := ⟨some w.heap.size, 0, some ⟨w.heap.size, 0, none⟩, l.length, cap, .dyn t, T⟩) ?_ (fun _ _ => hT) hr
  · exact ⟨_, h2, _, upd_same _ _ _, rfl, rfl⟩
  · intro b hb
    cases hb
    exact ⟨.inl h.size, hlt, fun hI => absurd (h.ilt _ hI) (Nat.lt_irrefl _), fun s' q' _ hs' hb' => absurd (h.tokLt s' q' _ hs' hb') (Nat.lt_irrefl _)⟩
/-- A nil slice as an own array. -/
theorem Inv.nilDyn (h : Inv C st tm w I tk) {d : Nat} (hd : ∀ j, d ≠ site j) {t : Ty} (hp : t.plain = true) :
    ∃ tk', Inv C (runPs (newPs d ⟨.dyn t, (true, [])⟩) st) tm w I tk' ∧ (∃ q, tk' d = some q ∧ q.ty = .dyn t ∧ q.hdr = .slice none 0 0) ∧ ∀ r, r ≠ d → tk' r = tk r := by
  have hr : BoxRep w I tk ⟨none, 0, none, 0, 0, .dyn t, 0⟩ ⟨.dyn t, (true, [])⟩ := ⟨rfl, hp, rfl, Nat.le_refl _, by simp, .inl ⟨rfl, rfl⟩⟩
  have h2 := (h.kill d).newBox (s := d) hd (free_kill st d) (List.not_mem_nil) (q := ⟨none, 0, none, 0, 0, .dyn t, 0⟩) (by intro b hb; cases hb) (by intro b hb; cases hb) hr
  exact ⟨_, h2, ⟨_, upd_same _ _ _, rfl, rfl⟩, fun r hr => upd_other _ _ _ hr⟩

/-- An operation that makes an own array. -/
theorem OpGood.row {fs : List Pm} (h : Inv C (runPs fs st) tm w I tk) (hd : ∀ d, o.dst = some d → d < st.sl.length) (g : Grew w w2) (hlt : w.heap.size < w2.heap.size) {T : TypeId} {cs : List Value} (hb : Blk w2 w.heap.size T cs) {t : Ty} (hT : TyAt C.P T t) (hp : t.plain = true)
    {l : List t.den} {cap : Nat} {w0 : World} (hr : (execOp (Act.eval ⟨tm, ds⟩) o).run C.P w0 = .ok (.value (.slice (some ⟨w.heap.size, 0, none⟩) l.length cap)) w2) (hcap : l.length ≤ cap) (hroom : cap * t.size ≤ cs.length)
    (hel : ∀ i x, l[i]? = some x → ∃ c', cellsRep w I tk t x c' ∧ ∀ j v, c'[j]? = some v → cs[i * t.size + j]? = some v) {e : Ef} (he : newSl o.dst t false l fs = some e) :
    OpGood C o ds (e.run o.dst st) tm w0 := by
  unfold newSl at he
  split at he
  · rename_i od d hod
    cases he
    obtain ⟨tk', h1, h2⟩ := h.newDyn (by rw [runPs_len]; exact hd d hod) g hlt hb hT hp hcap hroom hel
    rw [← runPs_append] at h1
    have := OpGood.of (v := .va d t) hr h1 (fun d' hd' => by rw [runPs_len]; exact hd d' hd') h2
    rwa [hod] at this ⊢
  · cases he

theorem madeCells_get (z : Array Value) (n k : Nat) (hz : 0 < z.size) (hk : k < n) : (madeCells z n).toList[k]? = z[k % z.size]? := by
  have := Nat.mod_lt k hz
  simp [madeCells, hk, this]
theorem zlen : ∀ {t : Ty}, t.plain = true → t.zcells.length = t.size := fun hp => (zcells_plain (w := default) (I := fun _ => False) (tk := fun _ => none) hp).length
theorem elem_zero {e : TypeId} {t : Ty} (hA : TyAt P e t) (hp : t.plain = true) : ∃ i z, P.info? e = some i ∧ i.zero = some z ∧ z.cells.toList = t.zcells ∧ i.size = t.size ∧ z.cells.size = t.size := by
  obtain ⟨i, z, hi, hz, hc⟩ := hA.base.zero
  have hs := hA.base.size
  rw [hi] at hs
  have hs' : i.size = t.size := by simpa using hs
  refine ⟨i, z, hi, hz, hc, hs', ?_⟩
  have := zlen hp
  rw [← hc] at this
  simpa using this
theorem made_row {t : Ty} (hp : t.plain = true) {z : Array Value} (hz : z.toList = t.zcells) (hs : z.size = t.size) (n c : Nat) (hn : n ≤ c) (i : Nat) (x : t.den) (hx : (List.replicate n t.dflt)[i]? = some x) :
    ∃ c', cellsRep w I tk t x c' ∧ ∀ j v, c'[j]? = some v → (madeCells z (c * t.size)).toList[i * t.size + j]? = some v := by
  rw [List.getElem?_replicate] at hx
  split at hx
  · rename_i hi
    cases hx
    refine ⟨t.zcells, zcells_plain hp, fun j v hj => ?_⟩
    have hjl := (List.getElem?_eq_some_iff.1 hj).1
    have hzl : t.zcells.length = t.size := by rw [← hz]; simpa using hs
    have hm : (i + 1) * t.size ≤ c * t.size := Nat.mul_le_mul_right _ (by omega)
    rw [Nat.add_mul, Nat.one_mul] at hm
    rw [madeCells_get _ _ _ (by omega) (by omega), hs, Nat.mul_comm, Nat.mul_add_mod, Nat.mod_eq_of_lt (by omega), ← hj, ← hz]
    simp
  · cases hx
theorem make_room {l c : Int} {B i : Nat} (h1 : 0 ≤ l) (h2 : l ≤ c) (h3 : c * (B : Int) ≤ 70368744177664) (hB : i ≤ B) (h0 : 0 < B) :
    0 ≤ c ∧ (i : Int) * c ≤ 281474976710656 ∧ c ≤ 9223372036854775807 ∧ l.toNat ≤ c.toNat := by
  have hc : 0 ≤ c := by omega
  have h4 : (i : Int) * c ≤ (B : Int) * c := Int.mul_le_mul_of_nonneg_right (by omega) hc
  have h5 : c * 1 ≤ c * (B : Int) := Int.mul_le_mul_of_nonneg_left (by omega) hc
  rw [Int.mul_comm] at h3
  rw [Int.mul_comm c B] at h5
  omega

theorem op_makeSlice {T : TypeId} {l c : Operand} (hE : EnvOK C.P E) (hV : View sv st) (h : Inv C st tm w I tk) (hd : ∀ d, o.dst = some d → d < st.sl.length) (ho : o.op = .makeSlice T l c) (hf : opP E o sv = some (true, e)) :
    OpGood C o ds (e.run o.dst st) tm w := by
  have hl := ev_rep (ds := ds) hV h l
  have hc := ev_rep (ds := ds) hV h c
  simp only [opP, ho] at hf
  split at hf
  · rename_i t k1 l0 k2 c0 hT e1 e2
    cases hp : t.plain with
    | false => rw [hp] at hf; cases hf
    | true =>
    rw [hp] at hf
    simp only [cond_true] at hf
    obtain ⟨e', he', hq⟩ := Option.map_eq_some_iff.1 hf
    simp only [Prod.mk.injEq, Bool.and_eq_true, decide_eq_true_eq] at hq
    obtain ⟨⟨⟨hc1, hc2⟩, hc3⟩, rfl⟩ := hq
    rw [e1] at hl; rw [e2] at hc
    have v1 := pRep_int.1 hl
    have v2 := pRep_int.1 hc
    obtain ⟨_, e, hu, hA0⟩ := hE.ty T _ hT
    have hA : TyAt C.P e t := hA0
    obtain ⟨i, z, hi, hz, hzc, hsz, hzs⟩ := elem_zero hA hp
    obtain ⟨hB, hB0⟩ := hE.bytes T e i hu (by rw [hT]; rfl) hi
    obtain ⟨hc0, hbytes, h63, hlc⟩ := make_room hc1 hc2 hc3 hB hB0
    have hr := run_make (P := C.P) w T e i z hu hi hz k1 k2 l0 c0 hc1 hc2 hbytes h63
    refine OpGood.row (fs := []) (l := List.replicate (l0 : Int).toNat t.dflt) (cap := (c0 : Int).toNat) h hd (Grew.alloc w _) (by simp) (Blk.alloc w (madeCells z.cells ((c0 : Int).toNat * t.size)) e) hA hp ?_ (by rw [List.length_replicate]; exact hlc) (by rw [Array.length_toList, size_madeCells]; exact Nat.le_refl _) ?_ he'
    · simp only [execOp, ho, v1, v2]
      rw [Sem.run_bind, hr, hsz]
      simp
    · intro j x hx
      exact made_row hp hzc hzs _ _ hlc j x hx
  · cases hf

/-! ### Literals -/
/-- One part goes in. -/
theorem fill_cons {place : Nat → Option (Nat × Nat)} {cells : Array Value} {i off n : Nat} {v : Value} {rest : List (Nat × Value)} (hp : place i = some (off, n)) (hn : v.cells.size = n) (hle : off + n ≤ cells.size) :
    ∃ cells' : Array Value, Instr.fill place cells ((i, v) :: rest) = Instr.fill place cells' rest ∧ cells'.toList = splice cells.toList off v.cells.toList := by
  obtain ⟨g1, g2⟩ := Great.foldl_set off v.cells.toList 0 cells
  refine ⟨(v.cells.toList.zipIdx 0).foldl (fun cs (x : Value × Nat) => cs.setIfInBounds (off + x.2) x.1) cells, ?_, ?_⟩
  · conv => lhs; unfold Instr.fill
    rw [hp]
    simp only
    rw [if_neg (by simp; omega)]
    congr 1
    rw [← Array.foldl_toList]
    simp
  · apply list_ext
    intro k
    rw [splice_get _ _ _ (by simp; omega), Array.getElem?_toList, g2 k]
    simp only [Nat.add_zero, Array.length_toList, Array.getElem?_toList]
    split
    · rw [if_pos (by omega)]
    · rename_i hk
      split
      · rename_i hk2; exact absurd ⟨hk2.1, by omega, by omega⟩ hk
      · rfl

def stepPath (isArr : Bool) (i : Nat) : Path := bif isArr then [.ix i] else fieldPath i
/-- What parts come to. -/
theorem buildS_fill {isArr : Bool} {place : Nat → Option (Nat × Nat)} {t : Ty}
    (hpl : ∀ i u, tyAt t (stepPath isArr i) = some u → ∃ off, pathAt t (stepPath isArr i) = some (off, u) ∧ place i = some (off, u.size))
    (hin : ∀ i u, t.has i = true → tyAt t (stepPath isArr i) = some u → pathIn 0 t (stepPath isArr i)) :
    ∀ {parts : List (Nat × SV)} {vs : List (Nat × Value)} {x y : DV} {cells : Array Value}, buildS isArr x parts = some y → x.1.frz = t → x.1.isTop = false → cellsRep w I tk x.1 x.2 cells.toList →
      parts.length = vs.length → (∀ (k : Nat) (p : Nat × SV) (v : Nat × Value), parts[k]? = some p → vs[k]? = some v → p.1 = v.1 ∧ SRep w I tk p.2 v.2) →
      ∃ r : Array Value, Instr.fill place cells vs = some r ∧ cellsRep w I tk y.1 y.2 r.toList ∧ y.1.frz = t ∧ y.1.isTop = false := by
  intro parts
  induction parts with
  | nil =>
    intro vs x y cells hb ht htop hc hl _
    cases vs with
    | cons => cases hl
    | nil =>
      simp only [buildS, Option.some.injEq] at hb
      subst hb
      exact ⟨cells, rfl, hc, ht, htop⟩
  | cons p parts ih =>
    intro vs x y cells hb ht htop hc hl hv
    cases vs with
    | nil => cases hl
    | cons v vs =>
      obtain ⟨i, s⟩ := p
      obtain ⟨i', v⟩ := v
      obtain ⟨e, hvr⟩ := hv 0 (i, s) (i', v) rfl rfl
      simp only at e hvr
      subst e
      simp only [buildS] at hb
      split at hb
      · rename_i u hu
        split at hb
        · rename_i d hd
          cases hq : (x.1.frz.has i && decide (d.1.frz = u) && d.1.known) with
          | false => rw [hq] at hb; cases hb
          | true =>
          rw [hq] at hb
          simp only [cond_true] at hb
          simp only [Bool.and_eq_true, decide_eq_true_eq] at hq
          obtain ⟨⟨hh, hdu⟩, hk⟩ := hq
          obtain ⟨z, hz, hb2⟩ := Option.bind_eq_some_iff.1 hb
          rw [ht] at hu
          obtain ⟨off, ha, hp⟩ := hpl i u hu
          have hpi := hin i u (by rw [← ht]; exact hh) hu
          obtain ⟨hdt, hdr⟩ := singOf_sound hvr hd
          have hdc := hdr.cells hk
          obtain ⟨h2, h3, h4⟩ := setP_cells 0 (u := d.1) (y := d.2) (t' := z.1) (x' := z.2) hc hz (by rw [ht]; exact hpi) hdc (by rw [ht, hdu]; exact ha)
          have hsz : v.cells.size = u.size := by rw [← hdu, Ty.frz_size]; simpa using hdc.length
          have hcl : cells.size = x.1.size := by simpa using hc.length
          obtain ⟨cells', h5, h6⟩ := fill_cons (cells := cells) (rest := vs) hp hsz (by rw [hcl, ← hdu, Ty.frz_size]; omega)
          rw [h5]
          rw [← h6] at h2
          have hzt := setP_top hz htop hdt
          exact ih hb2 (h4.trans ht) hzt h2 (by simpa using hl) (fun k p q hp hq => hv (k + 1) p q (by simpa using hp) (by simpa using hq))
        · cases hb
      · cases hb

theorem fields_places : ∀ {fs : List Field} {off : Nat} {t : Ty}, FieldsAt P fs off t →
    ∃ places, fs.mapM (fun f => (P.info? f.type).map fun i => (f.offset, i.size)) = some places ∧ ∀ n u, tyAt t (fieldPath n) = some u → ∃ o, pathAt t (fieldPath n) = some (o, u) ∧ places[n]? = some (off + o, u.size) := by
  intro fs
  induction fs with
  | nil =>
    intro off t h
    refine ⟨[], rfl, fun n u hu => ?_⟩
    cases t <;> simp only [FieldsAt, tyAF] at h
    · cases n <;> simp [fieldPath, tyAt] at hu
    · cases n <;> simp [fieldPath, tyAt] at hu
    · obtain ⟨f, r, e, _⟩ := h; cases e
  | cons g r ih =>
    intro off t h
    cases t <;> simp only [FieldsAt, tyAF] at h
    · cases h
    · cases h
    · rename_i a b
      obtain ⟨f, r', e, ho, h1, h2⟩ := h
      cases e
      obtain ⟨pl, hpl, hget⟩ := ih (off := off + a.size) (t := b) h2
      obtain ⟨i, z, hi, hz, hc⟩ := TyAt.base (P := P) (T := g.type) (t := a) h1
      |>.zero
      have hs := (TyAt.base (P := P) (T := g.type) (t := a) h1).size
      rw [hi] at hs
      have hs' : i.size = a.size := by simpa using hs
      refine ⟨(g.offset, i.size) :: pl, by simp [List.mapM_cons, hi, hpl], fun n u hu => ?_⟩
      cases n with
      | zero =>
        have : a = u := by cases a <;> simpa [fieldPath, tyAt] using hu
        subst this
        refine ⟨0, by cases a <;> rfl, by simp [ho, hs']⟩
      | succ n =>
        obtain ⟨o, h3, h4⟩ := hget n u (by simpa [fieldPath, tyAt] using hu)
        refine ⟨a.size + o, by simp [fieldPath, pathAt, h3], ?_⟩
        rw [List.getElem?_cons_succ, h4]; congr 2; omega
theorem has_in {n : Nat} {t : Ty} {i : Nat} (h : (Ty.arr n t).has i = true) : pathIn 0 (.arr n t) [.ix i] := by
  simp only [Ty.has, decide_eq_true_eq] at h
  exact ⟨h, by cases t <;> trivial⟩
theorem pathAt_ix {n : Nat} {t u : Ty} {i : Nat} (h : tyAt (.arr n t) [.ix i] = some u) : pathAt (.arr n t) [.ix i] = some (i * t.size, u) ∧ u = t := by
  have e : t = u := by cases t <;> simpa [tyAt] using h
  subst e
  simp [pathAt, pathAt_nil]

/-- The parts' values. -/
theorem parts_rep (hV : View sv st) (h : Inv C st tm w I tk) (parts : Array (Nat × Operand)) :
    ∀ (k : Nat) (p : Nat × SV) (v : Nat × Value), (partsOf sv parts.toList)[k]? = some p → (parts.toList.map fun (i, x) => (i, Act.eval ⟨tm, ds⟩ x))[k]? = some v → p.1 = v.1 ∧ SRep w I tk p.2 v.2 := by
  intro k p v hp hv
  unfold partsOf at hp
  rw [List.getElem?_map] at hp hv
  cases hq : parts.toList[k]? with
  | none => rw [hq] at hp; cases hp
  | some q =>
    rw [hq] at hp hv
    simp only [Option.map_some, Option.some.injEq] at hp hv
    subst hp; subst hv
    exact ⟨rfl, ev_rep hV h q.2⟩
theorem partsD_rep {t : Ty} {isArr : Bool} {fs : List Pm} : ∀ {ps : List (Nat × SV)} {ds : List (Nat × SV)} {vs : List (Nat × Value)}, partsD t isArr fs ps = some ds → (∀ (k : Nat) (p : Nat × SV) (v : Nat × Value), ps[k]? = some p → vs[k]? = some v → p.1 = v.1 ∧ SRep w I tk (runV fs p.2) v.2) →
    ds.length = ps.length ∧ ∀ (k : Nat) (p : Nat × SV) (v : Nat × Value), ds[k]? = some p → vs[k]? = some v → p.1 = v.1 ∧ SRep w I tk p.2 v.2 := by
  intro ps
  induction ps with
  | nil =>
    intro ds vs h hv
    simp only [partsD, Option.some.injEq] at h; subst h
    exact ⟨rfl, fun k p v hp => by simp at hp⟩
  | cons q ps ih =>
    obtain ⟨i, s⟩ := q
    intro ds vs h hv
    simp only [partsD] at h
    split at h
    · rename_i d r hd hr
      cases h
      cases vs with
      | nil =>
        obtain ⟨h1, _⟩ := ih (vs := []) hr (fun k p v _ hv => by simp at hv)
        exact ⟨by simp [h1], fun k p v _ hv => by simp at hv⟩
      | cons v0 vs =>
        obtain ⟨h1, h2⟩ := ih (vs := vs) hr (fun k p v hp hv' => hv (k + 1) p v (by simpa using hp) (by simpa using hv'))
        refine ⟨by simp [h1], fun k p v hp hv' => ?_⟩
        cases k with
        | zero =>
          simp at hp hv'
          subst hp; subst hv'
          obtain ⟨e1, e2⟩ := hv 0 (i, s) v0 rfl rfl
          obtain ⟨e3, e4⟩ := toData_sound e2 hd
          exact ⟨e1, e3, e4⟩
        | succ k => exact h2 k p v (by simpa using hp) (by simpa using hv')
    · cases h

/-- What a struct's, or an array's, literal comes to. -/
theorem built_run {T : TypeId} {t : Ty} (hA : TyAt P T t) (hag : t.isAgg = true) {vs : List (Nat × Value)} {parts : List (Nat × SV)} {x y : DV} (hb : buildS t.isArr x parts = some y) (hx : x.1.frz = t) (htop : x.1.isTop = false) (hc : cellsRep w I tk x.1 x.2 t.zcells)
    (hl : parts.length = vs.length) (hv : ∀ (k : Nat) (p : Nat × SV) (v : Nat × Value), parts[k]? = some p → vs[k]? = some v → p.1 = v.1 ∧ SRep w I tk p.2 v.2) :
    ∃ r : Array Value, P.built T vs = some r ∧ cellsRep w I tk y.1 y.2 r.toList ∧ y.1.frz = t ∧ y.1.isTop = false := by
  obtain ⟨it, z, hit, hz, hzc⟩ := hA.base.zero
  rw [← hzc] at hc
  cases t <;> simp only [Ty.isAgg, Bool.false_eq_true] at hag
  case unit =>
    obtain ⟨_, _, fs, hu, hfs⟩ := hA
    obtain ⟨r, h5, h6⟩ := buildS_fill (place := fun x => ([] : List (Nat × Nat))[x]?) (isArr := false) (t := .unit) (fun i u hu' => by cases i <;> simp [stepPath, fieldPath, tyAt] at hu') (fun i u _ hu' => fieldPath_in 0 hu') hb hx htop hc hl hv
    exact ⟨r, by simpa [Program.built, hit, hu, hz, hfs] using h5, h6⟩
  case eos u => exact hA.elim
  case pair a b =>
    obtain ⟨_, _, _, fs, hu, _, f, r, hfr, hoff, h7, h8⟩ := hA
    have hF : FieldsAt P fs.toList 0 (.pair a b) := ⟨f, r, hfr, hoff, h7, by simpa [FieldsAt] using h8⟩
    obtain ⟨places, hpl, hget⟩ := fields_places hF
    obtain ⟨r, h5, h6⟩ := buildS_fill (place := fun x => places[x]?) (isArr := false) (t := .pair a b) (fun i u hu' => by
      obtain ⟨o, h9, h10⟩ := hget i u hu'
      exact ⟨o, h9, by simpa using h10⟩) (fun i u _ hu' => fieldPath_in 0 hu') hb hx htop hc hl hv
    exact ⟨r, by simpa [Program.built, hit, hu, hz, hpl] using h5, h6⟩
  case arr n t =>
    obtain ⟨_, e, hu, hAe⟩ := hA
    have hAe' : TyAt P e t := hAe
    have hs := hAe'.base.size
    obtain ⟨ie, ze, hie, _⟩ := hAe'.base.zero
    rw [hie] at hs
    have hsz : ie.size = t.size := by simpa using hs
    obtain ⟨r, h5, h6⟩ := buildS_fill (place := fun i => some (i * ie.size, ie.size)) (isArr := true) (t := .arr n t) (fun i u hu' => by
      obtain ⟨e1, e2⟩ := pathAt_ix hu'
      exact ⟨_, e1, by rw [hsz, e2]⟩) (fun i u hh _ => has_in hh) hb hx htop hc hl hv
    exact ⟨r, by simpa [Program.built, hit, hu, hz, hie] using h5, h6⟩
  all_goals exact hA.elim

theorem op_build {T : TypeId} {parts : Array (Nat × Operand)} (hE : EnvOK C.P E) (hV : View sv st) (h : Inv C st tm w I tk) (hd : ∀ d, o.dst = some d → d < st.sl.length) (ho : o.op = .build T parts) (hf : opP E o sv = some (true, e)) :
    OpGood C o ds (e.run o.dst st) tm w := by
  simp only [opP, ho] at hf
  split at hf
  · rename_i t hT
    cases hag : (t.isAgg && t.zok) with
    | false => rw [hag] at hf; cases hf
    | true =>
    rw [hag] at hf
    simp only [Bool.and_eq_true] at hag
    simp only [cond_true] at hf
    split at hf
    · rename_i fs y hy
      simp only [Option.some.injEq, Prod.mk.injEq, true_and] at hf; subst hf
      have hA := hE.ty T _ hT
      have hag1 := hag.1
      have fin : ∀ {I' : Nat → Prop} {tk' : Toks} {r : Array Value}, C.P.built T (parts.map fun (i, x) => (i, Act.eval ⟨tm, ds⟩ x)).toList = some r → Inv C (runPs fs st) tm w I' tk' → cellsRep w I' tk' y.1 y.2 r.toList → y.1.frz = t → y.1.isTop = false →
          OpGood C o ds (Ef.run o.dst ⟨fs, some (mkS y)⟩ st) tm w := by
        intro I' tk' r hr hi hc hyt hyt2
        have hrun := run_build (P := C.P) w T _ r hr
        refine OpGood.of (x := .agg r) ?_ hi (fun d' hd' => by rw [runPs_len]; exact hd d' hd') (SRep.of1 (mkS_rep hyt2 ?_))
        · simp only [execOp, ho]
          rw [Sem.run_bind, hrun]; rfl
        · unfold valRep
          rw [if_pos (by rw [← Ty.frz_isAgg, hyt]; exact hag1)]
          exact ⟨r, rfl, hc⟩
      unfold buildP at hy
      split at hy
      · rename_i y' hb
        cases hy
        obtain ⟨z1, z2, z3, z4⟩ := z_rep (w := w) (I := I) (tk := tk) hag.2
        obtain ⟨r, h1, h2, h3, h4⟩ := built_run (vs := (parts.toList.map fun (i, x) => (i, Act.eval ⟨tm, ds⟩ x))) hA hag1 hb (by show t.z.frz = t; rw [z4]; exact hA.frz) z2 z1 (by simp [partsOf]) (parts_rep hV h parts)
        exact fin (by rw [Array.toList_map]; exact h1) h h2 h3 h4
      · split at hy
        · rename_i fs' hfs
          split at hy
          · rename_i dl hdl
            cases hp : t.plain with
            | false => rw [hp] at hy; cases hy
            | true =>
              rw [hp] at hy
              simp only [cond_true] at hy
              obtain ⟨y', hb, e⟩ := Option.map_eq_some_iff.1 hy
              cases e
              obtain ⟨I', tk', hF⟩ := freezeV_sound hV h hfs
              have hvals := parts_rep (ds := ds) hV h parts
              obtain ⟨g1, g2⟩ := partsD_rep (w := w) (I := I') (tk := tk') (vs := (parts.toList.map fun (i, x) => (i, Act.eval ⟨tm, ds⟩ x))) hdl (fun k p v hp hv => ⟨(hvals k p v hp hv).1, hF.val _ _ (hvals k p v hp hv).2⟩)
              obtain ⟨r, h1, h2, h3, h4⟩ := built_run (vs := (parts.toList.map fun (i, x) => (i, Act.eval ⟨tm, ds⟩ x))) hA hag1 hb (by exact hA.frz) (plain_top hp) (zcells_plain hp) (by rw [g1]; simp [partsOf]) g2
              exact fin (by rw [Array.toList_map]; exact h1) hF.inv h2 h3 h4
          · cases hy
        · cases hy
    · cases hf
  · cases hf
end Go.Own

/- Operations, one by one: slice literals, function values, lengths, conversions. -/
set_option linter.unusedVariables false
namespace Go.Own
variable {C : Cx} {P : Program} {E : Env} {w w' w2 : World} {I I' : Nat → Prop} {st sv : St} {tm : Array Value} {tk tk' : Toks} {ds : List Deferred} {o : Oper} {e : Ef}

theorem made_arr {t : Ty} (hp : t.plain = true) {z : Array Value} (hz : z.toList = t.zcells) (hs : z.size = t.size) (n : Nat) : cellsRep w I tk (.arr n t) (Ty.arr n t).dflt (madeCells z (n * t.size)).toList := by
  refine ⟨by simp [Ty.dflt], by simp [size_madeCells], fun i x hx => ?_⟩
  obtain ⟨c', hc, hv⟩ := made_row (w := w) (I := I) (tk := tk) hp hz hs n n (Nat.le_refl _) i x hx
  have hi : i < n := by
    have := (List.getElem?_eq_some_iff.1 hx).1
    simpa [Ty.dflt] using this
  have hcl := hc.length
  have hm : (i + 1) * t.size ≤ n * t.size := Nat.mul_le_mul_right _ hi
  rw [Nat.add_mul, Nat.one_mul] at hm
  have : ((madeCells z (n * t.size)).toList.drop (i * t.size)).take t.size = c' := by
    apply list_ext
    intro k
    rw [seg_get]
    split
    · rename_i hk
      rw [List.getElem?_eq_getElem (by omega : k < c'.length)]
      exact hv k _ (List.getElem?_eq_getElem _)
    · rw [List.getElem?_eq_none (by omega)]
  rw [this]; exact hc

theorem op_buildSlice {T : TypeId} {n : Nat} {parts : Array (Nat × Operand)} (hE : EnvOK C.P E) (hV : View sv st) (h : Inv C st tm w I tk) (hd : ∀ d, o.dst = some d → d < st.sl.length) (ho : o.op = .buildSlice T n parts) (hf : opP E o sv = some (true, e)) :
    OpGood C o ds (e.run o.dst st) tm w := by
  simp only [opP, ho] at hf
  split at hf
  · rename_i t fs hT hfs
    cases hbig : (decide (n * t.size ≤ 16777216) && t.plain) with
    | false => rw [hbig] at hf; cases hf
    | true =>
    rw [hbig] at hf
    simp only [cond_true] at hf
    simp only [Bool.and_eq_true, decide_eq_true_eq] at hbig
    obtain ⟨hsmall, hp⟩ := hbig
    split at hf
    · rename_i dl hdl
      split at hf
      · rename_i m u l hb
        split at hf
        · rename_i hut
          obtain ⟨e', he', hq⟩ := Option.map_eq_some_iff.1 hf
          simp only [Prod.mk.injEq, true_and] at hq
          subst hq
          obtain ⟨_, et, hu, hA0⟩ := hE.ty T _ hT
          have hA : TyAt C.P et t := hA0
          obtain ⟨ie, z, hie, hz, hzc, hsz, hzs⟩ := elem_zero hA hp
          obtain ⟨I', tk', hF⟩ := freezeV_sound hV h hfs
          have hvals := parts_rep (ds := ds) hV h parts
          obtain ⟨g1, g2⟩ := partsD_rep (w := w) (I := I') (tk := tk') (vs := (parts.toList.map fun (i, x) => (i, Act.eval ⟨tm, ds⟩ x))) hdl (fun k p v hp hv => ⟨(hvals k p v hp hv).1, hF.val _ _ (hvals k p v hp hv).2⟩)
          have hz0 := made_arr (w := w) (I := I') (tk := tk') hp hzc hzs n
          have hfr : (Ty.arr n t).frz = .arr n t := by simp only [Ty.frz, Ty.frz_plain hp]
          obtain ⟨r, h5, h6, h7, h8⟩ := buildS_fill (place := fun i => some (i * ie.size, ie.size)) (isArr := true) (t := .arr n t) (fun i u hu' => by
            obtain ⟨e1, e2⟩ := pathAt_ix hu'
            exact ⟨_, e1, by rw [hsz, e2]⟩) (fun i u hh _ => has_in hh) hb hfr rfl hz0 (by rw [g1]; simp [partsOf]) g2
          have h7' : Ty.arr m u.frz = .arr n t := h7
          simp only [Ty.arr.injEq] at h7'
          obtain ⟨rfl, _⟩ := h7'
          subst hut
          have hrun : (Instr.buildSlice T m (parts.map fun (i, x) => (i, Act.eval ⟨tm, ds⟩ x))).run C.P w = .ok (.slice (some ⟨w.heap.size, 0, none⟩) m m) (w.alloc (.cells r et)) := by
            have hb : ¬ m * ie.size > 2 ^ 24 := by rw [hsz]; omega
            rw [← Array.toList_map] at h5
            by_cases h0 : m * ie.size = 0
            · have hmk : madeCells z.cells (m * u.size) = #[] := by rw [← hsz, h0]; simp [madeCells, Array.range_zero']
              rw [hmk] at h5
              simp [Instr.buildSlice, run_underlying hu, sizeOf, typeInfo, zeroValue, hie, hz, h0, newRow, Array.range_zero'] at h5 ⊢
              rw [h5]; rfl
            · exact run_buildSlice w T et m _ r ie z hu hie hz hb h0 (by rw [hsz] at *; exact h5)
          have hcl := h6.length
          have hln : l.length = m := h6.1
          refine OpGood.row (l := l) (cap := m) (cs := r.toList) (T := et) hF.inv hd (Grew.alloc w _) (by simp) (Blk.alloc w r et) hA hp ?_ (Nat.le_of_eq hln) (by rw [show r.toList.length = (Ty.arr m u).size from hcl]; exact Nat.le_refl _) ?_ he'
          · simp only [execOp, ho]
            rw [Sem.run_bind, hrun, hln]; rfl
          · intro i x hx
            refine ⟨_, h6.2.2 i x hx, fun j v hj => ?_⟩
            rw [seg_get] at hj
            split at hj
            · exact hj
            · cases hj
        · cases hf
      · cases hf
    · cases hf
  · cases hf

theorem capsF_rep {fs : List Pm} : ∀ {vs cs : List SV}, capsF fs vs = some cs → cs.length = vs.length ∧ ∀ (k : Nat) (c : SV), cs[k]? = some c → ∃ v, vs[k]? = some v ∧ ((isPb v = true ∧ c = v) ∨ (isPb v = false ∧ ∃ d, toData none (runV fs v) = some d ∧ c = .p d)) := by
  intro vs
  induction vs with
  | nil => intro cs h; simp only [capsF, Option.some.injEq] at h; subst h; simp
  | cons v vs ih =>
    intro cs h
    simp only [capsF] at h
    split at h
    · rename_i c r hc hr
      cases h
      obtain ⟨h1, h2⟩ := ih hr
      refine ⟨by simp [h1], fun k c' hk => ?_⟩
      cases k with
      | zero =>
        simp at hk; subst hk
        refine ⟨v, rfl, ?_⟩
        cases hp : isPb v with
        | true => rw [hp] at hc; simp only [cond_true, Option.some.injEq] at hc; exact .inl ⟨rfl, hc.symm⟩
        | false =>
          rw [hp] at hc
          simp only [cond_false] at hc
          obtain ⟨d, hd, rfl⟩ := Option.map_eq_some_iff.1 hc
          exact .inr ⟨rfl, d, hd, rfl⟩
      | succ k => simpa using h2 k c' (by simpa using hk)
    · cases h
theorem Froze.sites {fs : List Pm} (hF : Froze C sv st tm w I tk fs I' tk') {v : SV} {x : Value} (hv : SRep1 w I tk v x) (hs : ∀ s, s ∈ v.sites → s ∉ fs.flatMap Pm.fs) : SRep1 w I' tk' v x :=
  (hv.world hF.mono (fun _ _ => rfl) (Toks.le.refl _)).congr fun s hs' => hF.tok s (hs s hs')

theorem op_makeFunc {f : FuncId} {first caps : Array Operand} (hV : View sv st) (h : Inv C st tm w I tk) (hd : ∀ d, o.dst = some d → d < st.sl.length) (ho : o.op = .makeFunc (.func f) first caps) (hf : opP E o sv = some (true, e)) :
    OpGood C o ds (e.run o.dst st) tm w := by
  simp only [opP, ho] at hf
  split at hf
  · rename_i fs hfs
    cases hfe : (first.toList.isEmpty && disj ((caps.toList.map (ev sv)).flatMap fun v => bif isPb v then v.sites else []) (fs.flatMap Pm.fs)) with
    | false => rw [hfe] at hf; cases hf
    | true =>
    rw [hfe] at hf
    simp only [cond_true] at hf
    simp only [Bool.and_eq_true] at hfe
    obtain ⟨hfe, hdj⟩ := hfe
    have hfirst : first = #[] := by
      have : first.toList = [] := List.isEmpty_iff.1 hfe
      exact Array.toList_eq_nil_iff.1 this
    subst hfirst
    obtain ⟨cs, hcs, hq⟩ := Option.map_eq_some_iff.1 hf
    simp only [Prod.mk.injEq, true_and] at hq
    subst hq
    obtain ⟨I', tk', hF⟩ := freezeV_sound hV h hfs
    obtain ⟨hlen, hget⟩ := capsF_rep hcs
    refine OpGood.of (v := .clo f cs) (x := .func (.func f) #[] (caps.map (Act.eval ⟨tm, ds⟩))) ?_ hF.inv (fun d' hd' => by rw [runPs_len]; exact hd d' hd') ?_
    · simp only [execOp, ho, Instr.makeFunc]; simp
    · refine ⟨_, rfl, by simpa using hlen.symm, fun j c x hc hx => ?_⟩
      obtain ⟨v, hv, hcase⟩ := hget j c hc
      rw [List.getElem?_map] at hv
      obtain ⟨a, ha, rfl⟩ := Option.map_eq_some_iff.1 hv
      have hx' : x = Act.eval ⟨tm, ds⟩ a := by
        have : (caps.map (Act.eval ⟨tm, ds⟩))[j]? = some (Act.eval ⟨tm, ds⟩ a) := by
          rw [Array.getElem?_map]
          rw [Array.getElem?_toList] at ha
          rw [ha]; rfl
        rw [this] at hx; exact (Option.some.inj hx).symm
      subst hx'
      have hr := ev_rep (ds := ds) hV h a
      rcases hcase with ⟨hp, rfl⟩ | ⟨hp, d, hd', rfl⟩
      · have hr1 : SRep1 w I tk (ev sv a) (Act.eval ⟨tm, ds⟩ a) := by
          cases he : ev sv a <;> rw [he] at hp hr <;> first | exact hr | cases hp
        refine hF.sites hr1 fun s hs hm => ?_
        unfold disj at hdj
        have := List.all_eq_true.1 hdj s (List.mem_flatMap.2 ⟨ev sv a, List.mem_map.2 ⟨a, List.mem_of_getElem? ha, rfl⟩, by rw [hp]; exact hs⟩)
        simp only [Bool.not_eq_true', List.any_eq_false] at this
        exact this s hm (beq_iff.2 rfl)
      · exact toData_sound (hF.val _ _ hr) hd'
  · cases hf

/-! ### Lengths -/
theorem elems_ty {d : DV} {x : (t : Ty) × List t.den} (h : elemsOf d = some x) : (d.1 = .dyn x.1 ∨ ∃ n, d.1 = .arr n x.1) := by
  obtain ⟨t, y⟩ := d
  cases t <;> simp only [elemsOf, reduceCtorEq] at h
  · cases h; exact .inr ⟨_, rfl⟩
  · cases h; exact .inl rfl
/-- A slice's elements, in memory. -/
theorem seq_cells (hV : View sv st) (h : Inv C st tm w I tk) {s : SV} {v : Value} {t : Ty} {l : List t.den} (hv : SRep w I tk s v) (hs : seqOf sv s = some ⟨t, l⟩) :
    ∃ ad cap, v = .slice ad l.length cap ∧ l.length ≤ cap ∧ (l = [] ∨ ∃ b o, ad = some ⟨b, o, none⟩ ∧ ∀ i x, l[i]? = some x → ∃ c, cellsRep w I tk t x c ∧ cellsAt w b (o + i * t.size) c) := by
  unfold seqOf at hs
  split at hs
  · cases hs
    have hr := hv.p
    simp only [valRep, Ty.isAgg, Bool.false_eq_true, if_false, cellsRep, List.cons.injEq, and_true] at hr
    obtain ⟨ad, cap, rfl, hcap, hr⟩ := hr
    refine ⟨ad, cap, rfl, hcap, hr.imp id ?_⟩
    rintro ⟨_, b, o, e, _, hel⟩
    exact ⟨b, o, e, hel⟩
  · rename_i s0 t0
    split at hs
    · rename_i u x hb
      cases hs
      obtain ⟨q, h1, h2, rfl⟩ := hv
      obtain ⟨q', h3, h4⟩ := h.boxes _ _ (hV.box _ _ hb)
      rw [h1] at h3; cases h3
      obtain ⟨g1, hp, g2, g3, g4, g5⟩ := h4
      refine ⟨q.ad, q.cap, by unfold Tk.hdr; rw [g2], g3, ?_⟩
      rcases g5 with ⟨_, g5⟩ | ⟨b, e1, e2, cs, e3, e4, e5⟩
      · left
        have : x.2.length = 0 := by have := g3; omega
        exact List.length_eq_zero_iff.1 this
      · right
        refine ⟨b, q.off, e2, fun i y hy => ?_⟩
        obtain ⟨c, hc, hcv⟩ := e5 i y hy
        exact ⟨c, hc, fun j v hj => by rw [e3.cell]; exact hcv j v hj⟩
    · cases hs
  · rename_i s0 t0 pa lo n
    split at hs
    · rename_i d hb
      split at hs
      · rename_i y hg
        cases hok : (pa.isEmpty || !y.1.isTop) with
        | false => rw [hok] at hs; cases hs
        | true =>
        rw [hok] at hs
        simp only [cond_true] at hs
        split at hs
        case h_2 => cases hs
        rename_i x hy
        cases hs
        obtain ⟨q, hq, hvs⟩ := hv
        obtain ⟨q', h3, h4⟩ := h.boxes _ _ (hV.box _ _ hb)
        rw [hq] at h3; cases h3
        rcases hvs with ⟨rfl, hty, hl, ad', rfl, ha, hn⟩ | ⟨b, off, m, hat, hin, hl, ad', rfl, ha⟩
        · have hyd : y = d := by
            have : some d = some y := by rw [← hg]; obtain ⟨dt, dx⟩ := d; cases dt <;> rfl
            exact (Option.some.inj this).symm
          subst hyd
          obtain ⟨yt, yx⟩ := y
          cases yt <;> simp only [elemsOf, reduceCtorEq] at hy
          · exfalso
            obtain ⟨g1, _⟩ := (BoxRep.str (t := .arr _ _) (x := yx) rfl).1 h4
            rw [hty] at g1; cases g1
          · cases hy
            obtain ⟨g1, hp, g2, g3, g4, g5⟩ := h4
            have hlen : ((yx.2.drop lo).take n).length = n := by simp; omega
            refine ⟨ad', q.cap - lo, by rw [hlen], by rw [hlen]; omega, ?_⟩
            by_cases hn0 : n = 0
            · left; subst hn0; simp
            · right
              rcases g5 with ⟨_, g5⟩ | ⟨b, e1, e2, cs, e3, e4, e5⟩
              · omega
              · rw [hty] at g1
                simp only [Ty.dyn.injEq] at g1
                subst g1
                refine ⟨b, q.off + lo * t0.size, by rw [ha (by omega), e2]; simp [addr_add], fun i z hz => ?_⟩
                obtain ⟨hi, hz⟩ := part_get _ _ _ _ _ hz
                obtain ⟨c, hc, hcv⟩ := e5 _ z hz
                refine ⟨c, hc, fun j v hj => ?_⟩
                rw [e3.cell]
                have := hcv j v hj
                have hm : (lo + i) * t0.size = lo * t0.size + i * t0.size := Nat.add_mul _ _ _
                rw [hm] at this
                dsimp only
                rw [← this]; congr 1; omega
        · obtain ⟨o, g1, g2, rfl⟩ := Tk.at_some hat
          have htop : y.1.isTop = false := by
            cases pa with
            | nil =>
              cases ht : y.1.isTop with
              | false => rfl
              | true =>
                exfalso
                have hyd : y = d := by
                  have : some d = some y := by rw [← hg]; obtain ⟨dt, dx⟩ := d; cases dt <;> rfl
                  exact (Option.some.inj this).symm
                subst hyd
                obtain ⟨yt, yx⟩ := y
                rw [pathAt_nil] at g2
                simp only [Option.some.injEq, Prod.mk.injEq] at g2
                cases yt <;> first | (cases ht; done) | skip
                · obtain ⟨k1, _⟩ := h4; rw [k1] at g2; cases g2.2
                · obtain ⟨k1, _⟩ := h4; rw [k1] at g2; cases g2.2
            | cons s pa => simpa using hok
          rcases elems_ty hy with hdy | ⟨m0, hary⟩
          · rw [hdy] at htop; cases htop
          · obtain ⟨yt, yx⟩ := y
            obtain ⟨xt, xl⟩ := x
            dsimp only at hary
            subst hary
            cases hy
            obtain ⟨off, cs, f1, f2, f3, f4⟩ := box_at h4 g1 hg hin rfl
            rw [g2] at f1
            simp only [Ty.frz, Option.some.injEq, Prod.mk.injEq, Ty.arr.injEq] at f1
            obtain ⟨rfl, rfl, ht0⟩ := f1
            obtain ⟨k1, k2, k3⟩ := f4
            have k1' : xl.length = m := k1
            have hlen : ((xl.drop lo).take n).length = n := by simp; omega
            refine ⟨some ad', m - lo, by rw [hlen], by rw [hlen]; omega, ?_⟩
            by_cases hn0 : n = 0
            · left; subst hn0; simp
            · right
              have hsz : t0.size = xt.size := by rw [ht0, Ty.frz_size]
              refine ⟨b, q.off + o + lo * t0.size, by rw [ha (by omega)], fun i z hz => ?_⟩
              obtain ⟨hi, hz⟩ := part_get _ _ _ _ _ hz
              refine ⟨_, k3 _ z hz, fun j v hj => ?_⟩
              rw [seg_get] at hj
              split at hj
              · rw [seg_get] at hj
                split at hj
                · have hm : (lo + i) * xt.size = lo * xt.size + i * xt.size := Nat.add_mul _ _ _
                  simp only [Ty.size] at hj ⊢
                  rw [hm] at hj
                  rw [f2.cell, ← hj, hsz]; congr 1; omega
                · cases hj
              · cases hj
      · cases hs
    · cases hs
  · cases hs
end Go.Own

/- Operations, one by one: lengths, built-in functions of numbers, conversions. -/
set_option linter.unusedVariables false
namespace Go.Own
variable {C : Cx} {P : Program} {E : Env} {w w' w2 : World} {I I' : Nat → Prop} {st sv : St} {tm : Array Value} {tk tk' : Toks} {ds : List Deferred} {o : Oper} {e : Ef}

theorem len_sound (hE : EnvOK C.P E) (hV : View sv st) (h : Inv C st tm w I tk) {T R : TypeId} {Ts : List TypeId} {s : SV} {v : Value} {d : DV} (hv : SRep w I tk s v) (hl : lenS E sv T s = some d) :
    ∃ u, (Builtin.len_ (T :: Ts).toArray R #[v]).run C.P w = .ok u w ∧ SRep w I tk (.p d) u := by
  have hT0 : ((T :: Ts).toArray)[0]? = some T := by simp
  have num : ∀ n : Nat, SRep w I tk (.p ⟨.int .i64, (n : Int)⟩) (goInt n) := fun n => pRep_int.2 rfl
  have viaSeq : ∀ {t : Ty}, E.T T = some (.sl t) → (seqOf sv s).map (fun s => (⟨.int .i64, (s.2.length : Int)⟩ : DV)) = some d → ∃ u, (Builtin.len_ (T :: Ts).toArray R #[v]).run C.P w = .ok u w ∧ SRep w I tk (.p d) u := by
    intro t hT hl
    obtain ⟨⟨t', l⟩, hs, rfl⟩ := Option.map_eq_some_iff.1 hl
    obtain ⟨_, e, hu, _⟩ := hE.ty T _ hT
    obtain ⟨ad, cap, rfl, _⟩ := seq_cells hV h hv hs
    exact ⟨goInt l.length, by simp [Builtin.len_, run_underlying hu], num _⟩
  unfold lenS at hl
  split at hl
  · rename_i b
    split at hl
    · rename_i hT
      cases hl
      have hA := hE.ty T _ hT
      have e := pRep_str.1 hv
      exact ⟨goInt b.size, by simp [Builtin.len_, run_underlying hA.2, e], num _⟩
    · cases hl
  · rename_i s0 t0 pa lo n
    split at hl
    · rename_i t hT
      cases hl
      obtain ⟨_, e, hu, _⟩ := hE.ty T _ hT
      obtain ⟨q, _, ⟨_, _, _, ad', rfl, _⟩ | ⟨b, off, m, _, _, _, ad', rfl, _⟩⟩ := hv
      · exact ⟨goInt n, by simp [Builtin.len_, run_underlying hu], num _⟩
      · exact ⟨goInt n, by simp [Builtin.len_, run_underlying hu], num _⟩
    · cases hl
  · split at hl
    · rename_i s0 k0 v0 s1 k1 v1 k x l hT hb
      cases hl
      obtain ⟨_, _, c, d, hu, _⟩ := hE.ty T _ hT
      obtain ⟨q, b, h1, h2, h3, rfl⟩ := hv
      obtain ⟨q', h4, h5⟩ := h.boxes _ _ (hV.box _ _ hb)
      rw [h1] at h4; cases h4
      obtain ⟨_, b', h6, es, clock, h7, _, _, _, h8, _⟩ := h5
      have hg := MapKept.run_getObj_map (P := C.P) h7
      rw [h3] at h6; cases h6
      exact ⟨goInt l.length, by simp [Builtin.len_, run_underlying hu, hg, h8, Result.andThen], num _⟩
    · cases hl
  · split at hl
    · rename_i t hT
      cases hl
      obtain ⟨_, e, hu, _⟩ := hE.ty T _ hT
      have e : v = .slice none 0 0 := hv
      exact ⟨goInt 0, by simp [Builtin.len_, run_underlying hu, e], num 0⟩
    · cases hl
  · split at hl
    · rename_i n t hT
      cases hl
      obtain ⟨_, e, hu, _⟩ := hE.ty T _ hT
      exact ⟨goInt n, by simp [Builtin.len_, run_underlying hu], num _⟩
    · rename_i t hT
      exact viaSeq hT hl
    · cases hl

theorem maxS_run (mx : Bool) : ∀ (r : List SV) (s : SV) (v : Value) (vs : List Value) (d : DV), maxS mx s r = some d → SRep w I tk s v → vs.length = r.length →
    (∀ (k : Nat) (s : SV) (v : Value), r[k]? = some s → vs[k]? = some v → SRep w I tk s v) →
    ∃ u, (vs.foldlM (bif mx then Builtin.max2 else Builtin.min2) v).run P w = .ok u w ∧ SRep w I tk (.p d) u := by
  intro r
  induction r with
  | nil =>
    intro s v vs d h hv hl _
    cases vs with
    | cons => cases hl
    | nil =>
      cases s with
      | p e =>
        have : some e = some d := by simpa [maxS] using h
        cases this
        exact ⟨v, rfl, hv⟩
      | _ => simp [maxS] at h
  | cons s2 r ih =>
    intro s v vs d h hv hl hvs
    cases vs with
    | nil => cases hl
    | cons v2 vs =>
      have hv2 := hvs 0 s2 v2 rfl rfl
      have hform : ∃ k x k' y, s = .p ⟨.int k, x⟩ ∧ s2 = .p ⟨.int k', y⟩ := by
        unfold maxS at h
        split at h
        · rename_i heq; cases heq
        · rename_i heq; cases heq; exact ⟨_, _, _, _, rfl, rfl⟩
        · cases h
      obtain ⟨k, x, k', y, rfl, rfl⟩ := hform
      have h' : maxS mx (.p ⟨.int k, bif mx then (bif decide (y > x) then y else x) else (bif decide (y < x) then y else x)⟩) r = some d := h
      have e3 := pRep_int.1 hv
      have e4 := pRep_int.1 hv2
      obtain ⟨u, hu, hr⟩ := ih _ (.int k (bif mx then (bif decide (y > x) then y else x) else (bif decide (y < x) then y else x))) vs d h' (pRep_int.2 rfl) (by simpa using hl)
        (fun q s v h1 h2 => hvs (q + 1) s v (by simpa using h1) (by simpa using h2))
      refine ⟨u, ?_, hr⟩
      rw [List.foldlM_cons, Sem.run_bind, e3, e4]
      have : ((bif mx then Builtin.max2 else Builtin.min2) (Value.int k x) (Value.int k' y)).run P w = .ok (.int k (bif mx then (bif decide (y > x) then y else x) else (bif decide (y < x) then y else x))) w := by
        cases mx
        · simp only [cond_false, Builtin.min2, Sem.run_pure]
          congr 2
          by_cases hyx : y < x <;> simp [hyx]
        · simp only [cond_true, Builtin.max2, Sem.run_pure]
          congr 2
          by_cases hyx : y > x <;> simp [hyx]
      rw [this]
      exact hu

theorem TyAt.und {T : TypeId} {t : Ty} (h : TyAt P T t) : ∃ u, P.underlying T = some u := by
  cases t
  case int k => exact ⟨_, h.2⟩
  case bool => exact ⟨_, h.2⟩
  case str => exact ⟨_, h.2⟩
  case flt => exact ⟨_, h.2⟩
  case unit => obtain ⟨_, _, fs, h, _⟩ := h; exact ⟨_, h⟩
  case pair => obtain ⟨_, _, _, fs, h, _⟩ := h; exact ⟨_, h⟩
  case arr => obtain ⟨_, e, h, _⟩ := h; exact ⟨_, h⟩
  case sl => obtain ⟨_, e, h, _⟩ := h; exact ⟨_, h⟩
  case ref => obtain ⟨_, e, h, _⟩ := h; exact ⟨_, h⟩
  case nif => obtain ⟨_, e, h⟩ := h; exact ⟨_, h⟩
  case slf => obtain ⟨_, e, h⟩ := h; exact ⟨_, h⟩
  case mp => obtain ⟨_, _, c, d, h, _⟩ := h; exact ⟨_, h⟩
  all_goals exact h.elim

theorem foldl_push_nums : ∀ (l : List Int) (r : ByteArray), l.foldl (fun r n => r.push (UInt8.ofNat n.toNat)) r = ⟨r.data ++ (l.map fun n => UInt8.ofNat n.toNat).toArray⟩
  | [], r => by simp
  | b :: l, r => by
    simp only [List.foldl_cons]
    rw [foldl_push_nums l]
    simp [ByteArray.push]

/-! ### Pointers to memory that is seen as another type -/
theorem rowAt_fst (P : Program) {fits : TypeId → Bool} : ∀ {pa : Path} {T : TypeId} {t u : Ty} {o d : Nat}, TyAt P T t → pa.all (fun x => decide (x = .fst)) = true → pathAt t pa = some (o, u) → u.size ≠ 0 →
    (∀ T', TyAt P T' u → fits T' = true) → pa.length < d → t.size ≠ 0 ∧ o = 0 ∧ rowAt P fits d T 1 0 1 = true := by
  intro pa
  induction pa with
  | nil =>
    intro T t u o d hA _ hp hu hf hd
    rw [pathAt_nil] at hp
    cases hp
    obtain ⟨d, rfl⟩ : ∃ e, d = e + 1 := ⟨d - 1, by simp at hd; omega⟩
    refine ⟨hu, rfl, ?_⟩
    have hs := hA.base.size
    have hc : P.cellsOf T = t.size := by unfold Program.cellsOf; rw [hs]; rfl
    unfold rowAt
    rw [hc, if_neg hu, hf T hA]
    simp
  | cons s pa ih =>
    intro T t u o d hA ha hp hu hf hd
    simp only [List.all_cons, Bool.and_eq_true, decide_eq_true_eq] at ha
    obtain ⟨rfl, ha⟩ := ha
    obtain ⟨d, rfl⟩ : ∃ e, d = e + 1 := ⟨d - 1, by simp at hd; omega⟩
    cases t <;> simp only [pathAt, reduceCtorEq] at hp
    rename_i a b
    obtain ⟨h0, hst, _, fs, hun, _, f, r, hfr, hoff, h7, h8⟩ := hA
    have h7' : TyAt P f.type a := h7
    obtain ⟨g1, g2, g3⟩ := ih (d := d) h7' ha hp hu hf (by simp at hd; omega)
    have hsz : (Ty.pair a b).size ≠ 0 := by simp only [Ty.size]; omega
    refine ⟨hsz, g2, ?_⟩
    have hs := h0.size
    have hc : P.cellsOf T = (Ty.pair a b).size := by unfold Program.cellsOf; rw [hs]; rfl
    have hs2 := h7'.base.size
    have hc2 : P.cellsOf f.type = a.size := by unfold Program.cellsOf; rw [hs2]; rfl
    have hm : f ∈ fs.toList := by rw [hfr]; exact List.mem_cons_self
    unfold rowAt
    rw [hc, if_neg hsz, hun]
    simp only [Nat.zero_mod, Nat.zero_div, hst]
    have hany : (fs.any fun f => decide (f.offset ≤ 0) && decide (0 < f.offset + P.cellsOf f.type) && rowAt P fits d f.type 1 (0 - f.offset) 1) = true := by
      rw [← Array.any_toList]
      refine List.any_eq_true.2 ⟨f, hm, ?_⟩
      rw [hoff, hc2]
      simp only [Nat.le_refl, decide_true, Nat.zero_add, Nat.sub_self, Bool.true_and, Bool.and_eq_true, decide_eq_true_eq]
      exact ⟨by omega, g3⟩
    refine Bool.or_eq_true_iff.2 (.inr ?_)
    exact Bool.and_eq_true_iff.2 ⟨rfl, Bool.and_eq_true_iff.2 ⟨rfl, hany⟩⟩
theorem eos_id {T : TypeId} {t : Ty} {u : Nat} (h : TyAt P T t) (hu : eosOf t = some u) : P.underlyingId T = u := by
  cases t <;> simp only [eosOf, reduceCtorEq] at hu
  · exact h.elim
  · exact h.2.2.1 u hu

theorem getD_byte {l : List Int} {i : Nat} {x : Int} (h : l[i]? = some x) : i < l.length := (List.getElem?_eq_some_iff.1 h).1

/-- The row of bytes that a string turns to. -/
theorem bytes_elems (s : ByteArray) (cap i : Nat) (x : Int) (hx : (s.data.toList.map fun b => (b.toNat : Int))[i]? = some x) :
    ∃ c', cellsRep w I tk (.int .u8) x c' ∧ ∀ j v, c'[j]? = some v → (bytesRow s cap).toList[i * (Ty.int .u8).size + j]? = some v := by
  rw [List.getElem?_map] at hx
  obtain ⟨b, hb, rfl⟩ := Option.map_eq_some_iff.1 hx
  refine ⟨[.int .u8 b.toNat], rfl, fun j v hj => ?_⟩
  cases j with
  | succ j => simp at hj
  | zero =>
    simp only [List.getElem?_cons_zero, Option.some.injEq] at hj; subst hj
    have hil := (List.getElem?_eq_some_iff.1 hb).1
    have hil' : i < s.data.size := by simpa using hil
    simp only [Ty.size, Nat.mul_one, Nat.add_zero, bytesRow, Array.toList_append, Array.toList_map]
    rw [List.getElem?_append_left (by simpa using hil'), List.getElem?_map, hb]
    rfl

/-- A pointer into a box that is a struct: where it points. -/
theorem fst_ptr (hV : View sv st) (h : Inv C st tm w I tk) {s : Nat} {t : Ty} {pa : Path} {v : Value} (hv : ptRep tk s t pa v) (hf : fsts pa = true) (hs : strB sv s = true) (hz : t.size ≠ 0) :
    ∃ b T cs, v = .pointer (some ⟨b, 0, none⟩) ∧ w.shape? b = some (T, cs) ∧ 0 < cs ∧ cs / C.P.cellsOf T = 1 ∧
      ∀ fits : TypeId → Bool, (∀ T', TyAt C.P T' t → fits T' = true) → ∀ d, 9 ≤ d → rowAt C.P fits d T 1 0 1 = true := by
  obtain ⟨k, b, off, h1, h2, _, rfl⟩ := hv
  unfold fsts at hf
  simp only [Bool.and_eq_true] at hf
  obtain ⟨hf, hl⟩ := hf
  have hl8 : pa.length ≤ 8 := Nat.le_of_ble_eq_true hl
  unfold strB at hs
  split at hs
  · rename_i d hb
    obtain ⟨q, h3, h4⟩ := h.boxes s d (hV.box _ _ hb)
    rw [h1] at h3; cases h3
    simp only [Bool.and_eq_true, Bool.not_eq_true'] at hs
    obtain ⟨htop, hftop⟩ := hs
    obtain ⟨g1, g2, b', cs, g3, g4, g5⟩ := (BoxRep.str (t := d.1) (x := d.2) htop).1 h4
    obtain ⟨o, e1, e2, rfl⟩ := Tk.at_some h2
    rw [e1] at g3; cases g3
    have hty := h.tys s k b h1 e1
    obtain ⟨c, fr, g6, g7, _⟩ := g4
    have hlen := g5.length
    have hA : TyAt C.P k.tid k.ty := by
      unfold TokTy at hty
      split at hty
      · rename_i t0 e0; rw [← g1, e0] at hftop; cases hftop
      · rename_i t0 e0; rw [← g1, e0] at hftop; cases hftop
      · exact hty
    obtain ⟨f1, f2, _⟩ := rowAt_fst C.P (fits := fun _ => true) (d := 9) hA hf e2 hz (fun _ _ => rfl) (by omega)
    subst f2
    have hsz : c.size = k.ty.size := by rw [g1, Ty.frz_size, ← hlen, ← g7]; simp
    have hs := hA.base.size
    have hc : C.P.cellsOf k.tid = k.ty.size := by unfold Program.cellsOf; rw [hs]; rfl
    refine ⟨b, k.tid, c.size, by rw [g2], by unfold World.shape?; rw [g6], by omega, by rw [hc, hsz]; exact Nat.div_self (by omega), fun fits hfit d hd => ?_⟩
    exact (rowAt_fst C.P hA hf e2 hz hfit (by omega)).2.2
  · cases hs

theorem op_convert {S T : TypeId} {x : Operand} (hE : EnvOK C.P E) (hV : View sv st) (h : Inv C st tm w I tk) (hd : ∀ d, o.dst = some d → d < st.sl.length) (ho : o.op = .convert S T x) (hf : opP E o sv = some (true, e)) :
    OpGood C o ds (e.run o.dst st) tm w := by
  have hx := ev_rep (ds := ds) hV h x
  simp only [opP, ho] at hf
  split at hf
  · rename_i hS hT
    obtain ⟨_, hu1⟩ := hE.ty S _ hS
    obtain ⟨_, hu2⟩ := hE.ty T _ hT
    split at hf
    · rename_i s e
      simp only [Option.some.injEq, Prod.mk.injEq, true_and] at hf; subst hf
      rw [e] at hx
      have e1 := pRep_str.1 hx
      refine OpGood.v (x := .string s) h hd ?_ (pRep_str.2 rfl)
      simp [execOp, ho, e1, convert, run_underlying hu1, run_underlying hu2]
    · cases hf
  · rename_i hS hT
    obtain ⟨_, e, hu1, _, hu3⟩ := hE.ty S _ hS
    obtain ⟨_, hu2⟩ := hE.ty T _ hT
    split at hf
    · rename_i l hs
      simp only [Option.some.injEq, Prod.mk.injEq, true_and] at hf; subst hf
      obtain ⟨ad, cap, e1, _, hr⟩ := seq_cells hV h hx hs
      refine OpGood.v (x := .string (bytesOf l)) h hd ?_ (pRep_str.2 rfl)
      have hrun : (convert S T (.slice ad l.length cap)).run C.P w = .ok (.string (bytesOf l)) w := by
        rw [run_convert_bytes_string w S T e ad l.length cap hu1 hu3 hu2]
        rcases ad with _ | a
        · rcases hr with rfl | ⟨b, o, e2, _⟩
          · simp [Conv.bytesToString, bytesOf]; rfl
          · cases e2
        · have hl : (loadCells a l.length).run C.P w = .ok (l.map (Value.int .u8)).toArray w := by
            rcases hr with rfl | ⟨b, oo, e2, hel⟩
            · simp [loadCells, loadCellsFrom]
            · cases e2
              have := run_loadCells_list (P := C.P) w ⟨b, oo, none⟩ (l.map (Value.int .u8)) (fun j v hj => by
                rw [List.getElem?_map] at hj
                obtain ⟨n, hn, rfl⟩ := Option.map_eq_some_iff.1 hj
                obtain ⟨c, hc, hcv⟩ := hel j n hn
                have hc' : c = [.int .u8 n] := hc
                subst hc'
                have := hcv 0 _ rfl
                rw [addr_add]
                simpa [Ty.size] using this)
              simpa using this
          rw [run_bytesToString w a l.length cap l hl, foldl_push_nums]
          simp [bytesOf, ByteArray.empty, ByteArray.emptyWithCapacity]
          rfl
      simp only [execOp, ho, e1]
      rw [Sem.run_bind, hrun]; rfl
    · cases hf
  · rename_i hS hT
    obtain ⟨_, hu1⟩ := hE.ty S _ hS
    obtain ⟨_, eT, hu2, hA1⟩ := hE.ty T _ hT
    have hA1' : TyAt C.P eT (.int .u8) := hA1
    obtain ⟨_, hu3⟩ := hA1
    split at hf
    · rename_i s e
      rw [e] at hx
      have e1 := pRep_str.1 hx
      obtain ⟨e', he', hq⟩ := Option.map_eq_some_iff.1 hf
      simp only [Prod.mk.injEq, true_and] at hq
      subst hq
      have hrun := run_bytes_of_string (P := C.P) w S T eT s hu1 hu2 hu3
      have hge := grownCap_ge w s.size 0 eT
      have hlen : (s.data.toList.map fun b => (b.toNat : Int)).length = s.size := by simp
      refine OpGood.row (fs := []) (w2 := w.drew.alloc (.cells (bytesRow s (grownCap w s.size 0 eT)) eT ((bytesRow s (grownCap w s.size 0 eT)).size, (bytesRow s (grownCap w s.size 0 eT)).size + 1))) (T := eT) (cs := (bytesRow s (grownCap w s.size 0 eT)).toList) (cap := grownCap w s.size 0 eT)
        h hd ((Grew.drew w).trans (Grew.alloc _ _)) (by simp) ?_ hA1' rfl ?_ (by rw [hlen]; exact hge) ?_ (fun i x hx => bytes_elems s _ i x hx) he'
      · refine ⟨_, _, by show (w.heap.push _)[w.heap.size]? = _; exact Array.getElem?_push_size, rfl, fun o ho' => ?_⟩
        simp only
        omega
      · simp only [execOp, ho, e1]
        rw [Sem.run_bind, hrun, hlen]; rfl
      · have : s.data.size = s.size := rfl
        simp [bytesRow, Ty.size]; omega
    · cases hf
  · rename_i k1 k hS hT
    obtain ⟨_, hu1⟩ := hE.ty S _ hS
    obtain ⟨_, hu2⟩ := hE.ty T _ hT
    split at hf
    · rename_i k' n e
      simp only [Option.some.injEq, Prod.mk.injEq, true_and] at hf; subst hf
      rw [e] at hx
      have e1 := pRep_int.1 hx
      refine OpGood.v (x := .int k (k.wrap n)) h hd ?_ (pRep_int.2 rfl)
      simp [execOp, ho, e1, convert, run_underlying hu1, run_underlying hu2, Conv.intToInt]
    · cases hf
  · rename_i k1 hS hT
    obtain ⟨_, hu1⟩ := hE.ty S _ hS
    obtain ⟨_, hu2⟩ := hE.ty T _ hT
    split at hf
    · rename_i k' n e
      simp only [Option.some.injEq, Prod.mk.injEq, true_and] at hf; subst hf
      rw [e] at hx
      have e1 := pRep_int.1 hx
      refine OpGood.v (x := .float .f64 (FloatKind.f64.nearest n)) h hd ?_ (pRep_flt.2 rfl)
      simp [execOp, ho, e1, convert, run_underlying hu1, run_underlying hu2, Conv.intToFloat]
    · cases hf
  · rename_i k hS hT
    obtain ⟨_, hu1⟩ := hE.ty S _ hS
    obtain ⟨_, hu2⟩ := hE.ty T _ hT
    split at hf
    · rename_i b e
      rw [e] at hx
      have e1 := pRep_flt.1 hx
      split at hf
      · rename_i n hn
        simp only [Option.some.injEq, Prod.mk.injEq, Bool.and_eq_true, decide_eq_true_eq] at hf
        obtain ⟨⟨h1, h2⟩, rfl⟩ := hf
        refine OpGood.v (x := .int k n) h hd ?_ (pRep_int.2 rfl)
        simp [execOp, ho, e1, convert, run_underlying hu1, run_underlying hu2, Conv.floatToInt, hn, h1, h2]
      · cases hf
    · cases hf
  · rename_i t0 hS hT
    obtain ⟨_, e0, hu1, hA0⟩ := hE.ty S _ hS
    have hA0' : TyAt C.P e0 t0 := hA0
    split at hf
    · rename_i s t pa e
      rw [e] at hx
      cases hq : (E.uns T && decide (t = t0) && t.size != 0 && fsts pa && strB sv s) with
      | false => rw [hq] at hf; cases hf
      | true =>
      rw [hq] at hf
      simp only [cond_true, Option.some.injEq, Prod.mk.injEq, true_and] at hf; subst hf
      simp only [Bool.and_eq_true, bne_iff_ne, ne_eq, decide_eq_true_eq] at hq
      obtain ⟨⟨⟨⟨h1, rfl⟩, h2⟩, h3⟩, h4⟩ := hq
      have hu2 := hE.uns T h1
      obtain ⟨b, Tb, cs, e1, g1, g2, _⟩ := fst_ptr hV h hx h3 h4 h2
      obtain ⟨j, _, hj, _⟩ := hA0'.base.zero
      have hs := hA0'.base.size
      rw [hj] at hs
      have hjs : j.size = t.size := by simpa using hs
      have hrun := Lib.run_to_unsafe (P := C.P) (w := w) (src := S) (dst := T) ⟨b, 0, none⟩ hu1 hu2 hj (by rw [hjs]; exact h2) g1 g2
      refine OpGood.v (x := .pointer (some ⟨b, 0, none⟩)) h hd ?_ (e1 ▸ hx)
      simp only [execOp, ho, e1]
      rw [Sem.run_bind, hrun]; rfl
    · cases hf
  · rename_i u hS hT
    obtain ⟨_, e0, hu2, hA0⟩ := hE.ty T _ hT
    have hA0' : TyAt C.P e0 u := hA0
    split at hf
    · rename_i s t pa e
      rw [e] at hx
      cases hq : (E.uns S && decide (t = u) && sameU (E.up T) (eosOf t) && t.size != 0 && fsts pa && strB sv s) with
      | false => rw [hq] at hf; cases hf
      | true =>
      rw [hq] at hf
      simp only [cond_true, Option.some.injEq, Prod.mk.injEq, true_and] at hf; subst hf
      simp only [Bool.and_eq_true, bne_iff_ne, ne_eq, decide_eq_true_eq] at hq
      obtain ⟨⟨⟨⟨⟨h1, rfl⟩, h5⟩, h2⟩, h3⟩, h4⟩ := hq
      have hu1 := hE.uns S h1
      obtain ⟨b, Tb, cs, e1, g1, g2, g3, g4⟩ := fst_ptr hV h hx h3 h4 h2
      unfold sameU at h5
      split at h5
      · rename_i a b0 ha hb0
        have hab := beq_iff.1 h5
        subst hab
        obtain ⟨e', hue, hid⟩ := hE.up T a ha
        rw [hu2] at hue; cases hue
        obtain ⟨j, _, hj, _⟩ := hA0'.base.zero
        have hdep := hE.depth
        obtain ⟨D, hD⟩ : ∃ D, C.P.depth = D + 1 := ⟨C.P.depth - 1, by omega⟩
        have hlies : liesAt C.P C.P.depth Tb (cs / C.P.cellsOf Tb) 0 e0 1 = true := by
          have hr := g4 (fun x => sameLayout C.P C.P.depth x e0) (fun T' hT' => by
            have := eos_id hT' hb0
            rw [hD]
            unfold sameLayout
            rw [this, hid]; simp) C.P.depth (by omega)
          rw [g3, hD]
          unfold liesAt
          rw [hD] at hr
          rw [hD, hr]; rfl
        have hrun := Lib.run_from_unsafe (P := C.P) (w := w) (src := S) (dst := T) ⟨b, 0, none⟩ hu1 hu2 hj g1 hlies
        refine OpGood.v (x := .pointer (some ⟨b, 0, none⟩)) h hd ?_ (e1 ▸ hx)
        simp only [execOp, ho, e1]
        rw [Sem.run_bind, hrun]; rfl
      · cases h5
    · cases hf
  · cases hf
end Go.Own

/- Operations, one by one: append. -/
set_option linter.unusedVariables false
namespace Go.Own
variable {C : Cx} {P : Program} {E : Env} {w w' w2 : World} {I I' : Nat → Prop} {st sv : St} {tm : Array Value} {tk tk' : Toks} {ds : List Deferred} {o : Oper} {e : Ef}

def sliceOrString (u : TypeDesc) : Prop := (∃ e, u = .slice e) ∨ u = .string

/-- append, with room: what is appended is written behind the slice. -/
theorem append_room (w : World) {T T2 ty e : TypeId} {u2 : TypeDesc} {i : TypeInfo} (ht : P.underlying T = some (.slice e)) (hi : P.info? e = some i) (h2 : P.underlying T2 = some u2) (hu : sliceOrString u2)
    {ad : Option Addr} {len cap m : Nat} {x : Value} {news : List Value} (hm : (Builtin.lenOf x).run P w = .ok m w) (hn : (Builtin.firstCells i.size m x).run P w = .ok news.toArray w)
    (hroom : len + m ≤ cap) {w2 : World} (hst : ∀ a, ad = some a → (storeCells (a.add (len * i.size)) news 0).run P w = .ok () w2) (hno : ad = none → w2 = w) :
    (Builtin.append_ #[T, T2] ty #[.slice ad len cap, x]).run P w = .ok (.slice ad (len + m) cap) w2 := by
  cases ad with
  | none =>
    have := hno rfl; subst this
    rcases hu with ⟨e2, rfl⟩ | rfl <;> simp [Builtin.append_, run_underlying ht, run_underlying h2, sizeOf, typeInfo, hi, hm, hroom, hn]
  | some a =>
    have hs := hst a rfl
    rcases hu with ⟨e2, rfl⟩ | rfl <;> simp [Builtin.append_, run_underlying ht, run_underlying h2, sizeOf, typeInfo, hi, hm, hroom, hn, hs]

/-- append, without room: a new row. -/
theorem append_grow (w : World) {T T2 ty e : TypeId} {u2 : TypeDesc} {i : TypeInfo} {z : Value} (ht : P.underlying T = some (.slice e)) (hi : P.info? e = some i) (hz : i.zero = some z) (h2 : P.underlying T2 = some u2) (hu : sliceOrString u2)
    {ad : Option Addr} {len cap m : Nat} {x : Value} {olds news : List Value} (hm : (Builtin.lenOf x).run P w = .ok m w) (hn : (Builtin.firstCells i.size m x).run P w.drew = .ok news.toArray w.drew)
    (ho : (Builtin.firstCells i.size len (.slice ad len cap)).run P w.drew = .ok olds.toArray w.drew)
    (hg : cap < len + m) (h63 : ((len + m : Nat) : Int) ≤ 9223372036854775807) (hfit : Builtin.nextslicecap (len + m) cap * i.bytes ≤ 281474976710656) :
    (Builtin.append_ #[T, T2] ty #[.slice ad len cap, x]).run P w =
      .ok (.slice (some ⟨w.heap.size, 0, none⟩) (len + m) (grownCap w (len + m) cap e))
        (w.drew.alloc (.cells (olds.toArray ++ news.toArray ++ Builtin.zeroCells z.cells (grownCap w (len + m) cap e - (len + m))) e)) := by
  have hn' : ¬ (len + m ≤ cap) := by omega
  have h63' : ¬ (9223372036854775807 < ((len : Int) + (m : Int))) := by omega
  have h48' : ¬ (281474976710656 < Builtin.nextslicecap (len + m) cap * i.bytes) := by omega
  rcases hu with ⟨e2, rfl⟩ | rfl
  · simp [Builtin.append_, run_underlying ht, run_underlying h2, sizeOf, typeInfo, zeroValue, hi, hz, hm, hn', h63', h48', Question.forced, hn, ho, newRow, grownCap]
    congr 2
    apply Array.ext'
    simp [List.append_assoc]
  · simp [Builtin.append_, run_underlying ht, run_underlying h2, sizeOf, typeInfo, zeroValue, hi, hz, hm, hn', h63', h48', Question.forced, hn, ho, newRow, grownCap]
    congr 2
    apply Array.ext'
    simp [List.append_assoc]

/-- A row of which nobody is the owner. -/
def FreeRow (C : Cx) (w : World) (I : Nat → Prop) (tk : Toks) (ad : Option Addr) (cap : Nat) (t : Ty) (l : List t.den) : Prop :=
  cap = 0 ∨ ∃ b o e, ad = some ⟨b, o, none⟩ ∧ OwnRep w I tk b e o cap t l ∧ (∀ s q, tk s = some q → q.blk ≠ some b) ∧ ¬ I b ∧ (C.w0.heap.size ≤ b ∨ ∃ (j : Nat) (q' : Tk), C.xs[j]? = some q' ∧ q'.blk = some b) ∧ b < w.heap.size ∧ TyAt C.P e t
/-- Such a row is a box. -/
theorem Inv.putRow (h : Inv C st tm w I tk) {d : Nat} (hd : d < st.sl.length) {t : Ty} (hp : t.plain = true) {nl : Bool} {l : List t.den} {ad : Option Addr} {cap : Nat} (hn : nl = true ↔ ad = none) (hc : l.length ≤ cap) (hr : FreeRow C w I tk ad cap t l) :
    ∃ tk', Inv C (runPs (newPs d ⟨.dyn t, (nl, l)⟩) st) tm w I tk' ∧ SRep w I tk' (.va d t) (.slice ad l.length cap) := by
  have hs : ∀ j, d ≠ site j := fun j => site_ne h.small hd
  rcases hr with rfl | ⟨b, o, e, rfl, h1, h2, h3, h4, h5, h6⟩
  · have hr : BoxRep w I tk ⟨none, 0, ad, l.length, 0, .dyn t, 0⟩ ⟨.dyn t, (nl, l)⟩ := ⟨rfl, hp, rfl, hc, hn, .inl ⟨rfl, rfl⟩⟩
    exact ⟨_, (h.kill d).newBox (s := d) hs (free_kill st d) List.not_mem_nil (by intro b hb; cases hb) (by intro b hb; cases hb) hr, _, upd_same _ _ _, rfl, rfl⟩
  · have hr : BoxRep w I tk ⟨some b, o, some ⟨b, o, none⟩, l.length, cap, .dyn t, e⟩ ⟨.dyn t, (nl, l)⟩ := ⟨rfl, hp, rfl, hc, hn, .inr ⟨b, rfl, rfl, h1⟩⟩
    refine ⟨_, (h.kill d).newBox (s := d) hs (free_kill st d) List.not_mem_nil (fun b' hb' => ?_) (fun _ _ => by show TyAt C.P e t; exact h6) hr, _, upd_same _ _ _, rfl, rfl⟩
    cases hb'
    exact ⟨h4, h5, h3, fun s' q' _ hq => h2 s' q' hq⟩

/-- Rows of elements, as cells. -/
theorem row_cells {t : Ty} (hp : t.plain = true) : ∀ {l : List t.den} {f : Nat → Option Value}, (∀ i x, l[i]? = some x → ∃ c, cellsRep w I tk t x c ∧ ∀ j v, c[j]? = some v → f (i * t.size + j) = some v) →
    ∃ cs : List Value, cs.length = l.length * t.size ∧ (∀ j v, cs[j]? = some v → f j = some v) ∧ (∀ v ∈ cs, v.oneCell' = true) ∧
      ∀ i x, l[i]? = some x → ∃ c, cellsRep w I tk t x c ∧ ∀ j v, c[j]? = some v → cs[i * t.size + j]? = some v := by
  intro l
  induction l with
  | nil => intro f _; exact ⟨[], by simp, by simp, by simp, by simp⟩
  | cons y l ih =>
    intro f h
    obtain ⟨c0, hc0, hv0⟩ := h 0 y rfl
    have hl0 := hc0.length
    obtain ⟨cs, h1, h2, h3, h4⟩ := ih (f := fun j => f (t.size + j)) (fun i x hx => by
      obtain ⟨c, hc, hv⟩ := h (i + 1) x (by simpa using hx)
      refine ⟨c, hc, fun j v hj => ?_⟩
      have := hv j v hj
      rw [Nat.add_mul, Nat.one_mul] at this
      rw [← this]; congr 1; omega)
    refine ⟨c0 ++ cs, by simp [h1, hl0, Nat.add_mul]; omega, fun j v hj => ?_, fun v hv => ?_, fun i x hx => ?_⟩
    · rcases Nat.lt_or_ge j c0.length with hlt | hge
      · rw [List.getElem?_append_left hlt] at hj
        have := hv0 j v hj
        simpa using this
      · rw [List.getElem?_append_right hge] at hj
        have := h2 _ v hj
        rw [← this]; congr 1; omega
    · rcases List.mem_append.1 hv with h5 | h5
      · exact hc0.ones (plain_known hp) v h5
      · exact h3 v h5
    · cases i with
      | zero =>
        simp at hx; subst hx
        refine ⟨c0, hc0, fun j v hj => ?_⟩
        have := (List.getElem?_eq_some_iff.1 hj).1
        rw [List.getElem?_append_left (by omega)]
        simpa using hj
      | succ i =>
        obtain ⟨c, hc, hv⟩ := h4 i x (by simpa using hx)
        refine ⟨c, hc, fun j v hj => ?_⟩
        rw [Nat.add_mul, Nat.one_mul, List.getElem?_append_right (by omega), ← hv j v hj]
        congr 1; omega

/-- What is appended: its length, and its cells. -/
structure More (P : Program) (w : World) (I : Nat → Prop) (tk : Toks) (t : Ty) (ys : List t.den) (x : Value) (news : List Value) : Prop where
  len : (Builtin.lenOf x).run P w = .ok ys.length w
  cellsK : ∀ k, k ≤ ys.length → ∀ w' : World, w'.heap = w.heap → (Builtin.firstCells t.size k x).run P w' = .ok (news.take (k * t.size)).toArray w'
  size : news.length = ys.length * t.size
  one : ∀ v ∈ news, v.oneCell' = true
  rep : ∀ i y, ys[i]? = some y → ∃ c, cellsRep w I tk t y c ∧ ∀ j v, c[j]? = some v → news[i * t.size + j]? = some v

theorem More.cells {t : Ty} {ys : List t.den} {x : Value} {news : List Value} (h : More P w I tk t ys x news) : ∀ w' : World, w'.heap = w.heap → (Builtin.firstCells t.size ys.length x).run P w' = .ok news.toArray w' := by
  intro w' hw
  have := h.cellsK ys.length (Nat.le_refl _) w' hw
  rwa [← h.size, List.take_length] at this

theorem cell_of_heap {w w' : World} (h : w'.heap = w.heap) (a : Addr) : w'.cell? a = w.cell? a := by unfold World.cell?; rw [h]

theorem more_slice {t : Ty} (hp : t.plain = true) {ys : List t.den} {ad : Option Addr} {cap : Nat} (h : ys = [] ∨ ∃ b o, ad = some ⟨b, o, none⟩ ∧ ∀ i x, ys[i]? = some x → ∃ c, cellsRep w I tk t x c ∧ cellsAt w b (o + i * t.size) c) :
    ∃ news, More P w I tk t ys (.slice ad ys.length cap) news := by
  rcases h with rfl | ⟨b, o, rfl, hel⟩
  · refine ⟨[], ⟨by simp [Builtin.lenOf], fun k hk w' _ => ?_, by simp, by simp, by simp⟩⟩
    have hk0 : k = 0 := by simpa using hk
    subst hk0
    cases ad <;> simp [Builtin.firstCells, loadCells, loadCellsFrom]
  · obtain ⟨news, h1, h2, h3, h4⟩ := row_cells hp (w := w) (I := I) (tk := tk) (l := ys) (f := fun j => w.cell? ⟨b, o + j, none⟩) (fun i x hx => by
      obtain ⟨c, hc, hv⟩ := hel i x hx
      exact ⟨c, hc, fun j v hj => by rw [← Nat.add_assoc]; exact hv j v hj⟩)
    exact ⟨news, ⟨by simp [Builtin.lenOf], fun k hk w' hw' => run_firstCells_some w' t.size k _ _ _ (news.take (k * t.size)) (by have := Nat.mul_le_mul_right t.size hk; simp; omega) (fun j v hj => by rw [addr_add, cell_of_heap hw']; exact h2 j v (by rw [List.getElem?_take] at hj; split at hj; exact hj; cases hj)), h1, h3, h4⟩⟩

theorem more_cells (hV : View sv st) (h : Inv C st tm w I tk) {T : TypeId} {s : SV} {v : Value} {t : Ty} (hp : t.plain = true) {ys : List t.den} (hv : SRep w I tk s v) (hs : moreOf E sv T s = some ⟨t, ys⟩) :
    ∃ news, More P w I tk t ys v news := by
  have viaSeq : seqOf sv s = some ⟨t, ys⟩ → ∃ news, More P w I tk t ys v news := by
    intro hq
    obtain ⟨ad, cap, rfl, _, hr⟩ := seq_cells hV h hv hq
    exact more_slice hp hr
  unfold moreOf at hs
  split at hs
  · rename_i s
    cases hs
    have e := pRep_str.1 hv
    subst e
    have hlen : (s.data.toList.map fun b => (b.toNat : Int)).length = s.size := by simp
    refine ⟨s.data.toList.map fun b => .int .u8 b.toNat, ⟨by rw [hlen]; simp [Builtin.lenOf], fun k hk w' _ => ?_, by simp [Ty.size], by intro v hv; obtain ⟨b, _, rfl⟩ := List.mem_map.1 hv; rfl, fun i y hy => ?_⟩⟩
    · simp only [Builtin.firstCells, Sem.run_pure]
      congr 1
      apply Array.ext'
      simp [ByteArray.extract, ByteArray.copySlice, Ty.size]
    · rw [List.getElem?_map] at hy
      obtain ⟨b, hb, rfl⟩ := Option.map_eq_some_iff.1 hy
      refine ⟨[.int .u8 b.toNat], rfl, fun j v hj => ?_⟩
      cases j with
      | succ j => simp at hj
      | zero =>
        simp only [List.getElem?_cons_zero, Option.some.injEq] at hj; subst hj
        simp only [Ty.size, Nat.mul_one, Nat.add_zero]
        rw [List.getElem?_map, hb]; rfl
  · split at hs
    · cases hs
      have e : v = .slice none 0 0 := hv
      subst e
      exact more_slice (ys := []) hp (.inl rfl)
    · cases hs
  · exact viaSeq hs

/-- append onto a row that is nobody's. -/
theorem append_core (hE : EnvOK C.P E) (h : Inv C st tm w I tk) {d : Nat} (hd : d < st.sl.length) {T T2 ty : TypeId} {u2 : TypeDesc} {t : Ty} (hp : t.plain = true) (hT : E.T T = some (.sl t)) (h2 : C.P.underlying T2 = some u2) (hu : sliceOrString u2)
    {nl : Bool} {l ys : List t.den} {ad : Option Addr} {cap : Nat} {x : Value} {news : List Value} (hmore : More C.P w I tk t ys x news) (hnl : nl = true ↔ ad = none) (hcap : l.length ≤ cap)
    (hr : FreeRow C w I tk ad cap t l) (hbig : (2 * (l.length + ys.length) + 512) * E.B T ≤ 70368744177664) :
    ∃ v w' tk', (Builtin.append_ #[T, T2] ty #[.slice ad l.length cap, x]).run C.P w = .ok v w' ∧ Inv C (runPs (newPs d ⟨.dyn t, (nl && ys.isEmpty, l ++ ys)⟩) st) tm w' I tk' ∧ SRep w' I tk' (.va d t) v := by
  obtain ⟨_, e, hue, hA0⟩ := hE.ty T _ hT
  have hA : TyAt C.P e t := hA0
  obtain ⟨i, z, hi, hz, hzc, hsz, hzs⟩ := elem_zero hA hp
  obtain ⟨hB, hB0⟩ := hE.bytes T e i hue (by rw [hT]; rfl) hi
  have hfc := hmore.cells
  by_cases hroom : l.length + ys.length ≤ cap
  · -- there is room
    rcases hr with h0 | ⟨b, oo, eb, rfl, hrow, hfree, hI, hnew, hlt, hAb⟩
    · have hl0 : l = [] := List.eq_nil_of_length_eq_zero (by omega)
      have hy0 : ys = [] := List.eq_nil_of_length_eq_zero (by omega)
      subst hl0; subst hy0
      have hnews : news = [] := List.eq_nil_of_length_eq_zero (by rw [hmore.size]; simp)
      subst hnews
      have hrun := append_room (P := C.P) (ty := ty) w hue hi h2 hu (ad := ad) (len := 0) (cap := cap) hmore.len (by rw [hsz]; exact hfc w rfl) (by simp) (w2 := w) (fun a _ => by simp [storeCells]) (fun _ => rfl)
      obtain ⟨tok', h3, h4⟩ := h.putRow hd hp (l := []) hnl hcap (.inl h0)
      exact ⟨_, w, tok', hrun, by simpa using h3, h4⟩
    · obtain ⟨cs, hblk, hrm, hel⟩ := hrow
      have hns := hmore.size
      have hm1 : (l.length + ys.length) * t.size ≤ cap * t.size := Nat.mul_le_mul_right _ hroom
      rw [Nat.add_mul] at hm1
      have hst := run_storeCells_cells (P := C.P) b (oo + l.length * t.size) news 0 w (fun j hj => by rw [hblk.cell, List.getElem?_eq_getElem (by omega)]; rfl) (fun j hj => hblk.frozen _ (by omega)) hmore.one
      have hrun := append_room (P := C.P) (ty := ty) w hue hi h2 hu (ad := some ⟨b, oo, none⟩) (len := l.length) (cap := cap) hmore.len (by rw [hsz]; exact hfc w rfl) hroom (w2 := w.setCells b (oo + l.length * t.size) news)
        (fun a ha => by cases ha; rw [addr_add, hsz]; simpa using hst) (fun hc => by cases hc)
      have hW := Wrote.cells b news (oo + l.length * t.size) w
      have h3 := h.writeFree hfree hI hnew hW
      have hnlf : nl = false := by cases nl with | false => rfl | true => exact absurd (hnl.1 rfl) (by simp)
      subst hnlf
      have hIb : ∀ q, I q → (w.setCells b (oo + l.length * t.size) news).heap[q]? = w.heap[q]? := fun q hq => hW.other q (by rintro rfl; exact hI hq)
      obtain ⟨tok', h4, h5⟩ := h3.putRow hd hp (l := l ++ ys) (ad := some ⟨b, oo, none⟩) (cap := cap) (nl := false) (by simp) (by simpa using hroom) (.inr ⟨b, oo, eb, rfl, ⟨_, hblk.setCells (by omega), by rw [splice_length _ _ _ (by omega)]; exact hrm, fun j y hj => by
        rcases Nat.lt_or_ge j l.length with hjl | hjl
        · rw [List.getElem?_append_left hjl] at hj
          obtain ⟨c, hc, hv⟩ := hel j y hj
          refine ⟨c, hc.mono (fun _ hb => hb) hIb (Toks.le.refl _), fun q v hq => ?_⟩
          have hql := (List.getElem?_eq_some_iff.1 hq).1
          have hcl := hc.length
          have hm2 : (j + 1) * t.size ≤ l.length * t.size := Nat.mul_le_mul_right _ hjl
          rw [Nat.add_mul, Nat.one_mul] at hm2
          rw [splice_get _ _ _ (by omega), if_neg (by omega)]
          exact hv q v hq
        · rw [List.getElem?_append_right hjl] at hj
          obtain ⟨c, hc, hv⟩ := hmore.rep _ y hj
          refine ⟨c, hc.mono (fun _ hb => hb) hIb (Toks.le.refl _), fun q v hq => ?_⟩
          have hql := (List.getElem?_eq_some_iff.1 hq).1
          have hcl := hc.length
          have hj2 : j - l.length < ys.length := (List.getElem?_eq_some_iff.1 hj).1
          have hm2 : (j - l.length + 1) * t.size ≤ ys.length * t.size := Nat.mul_le_mul_right _ hj2
          have hm3 : j * t.size = l.length * t.size + (j - l.length) * t.size := by rw [← Nat.add_mul]; congr 1; omega
          rw [Nat.add_mul, Nat.one_mul] at hm2
          rw [splice_get _ _ _ (by omega), if_pos (by omega), ← hv q v hq]
          congr 1; omega⟩, hfree, hI, hnew, by rw [hW.size]; exact hlt, hAb⟩)
      refine ⟨_, _, tok', hrun, by simpa using h4, ?_⟩
      rw [List.length_append] at h5
      exact h5
  · -- it grows
    have hg : cap < l.length + ys.length := by omega
    have hone : (l.length + ys.length) * 1 ≤ (l.length + ys.length) * E.B T := Nat.mul_le_mul_left _ hB0
    have hle : (l.length + ys.length) * E.B T ≤ (2 * (l.length + ys.length) + 512) * E.B T := Nat.mul_le_mul_right _ (by omega)
    have hby : (l.length + ys.length) * i.bytes ≤ (l.length + ys.length) * E.B T := Nat.mul_le_mul_left _ hB
    have olds : ∃ olds : List Value, (Builtin.firstCells t.size l.length (.slice ad l.length cap)).run C.P w.drew = .ok olds.toArray w.drew ∧ olds.length = l.length * t.size ∧
        ∀ j y, l[j]? = some y → ∃ c, cellsRep w I tk t y c ∧ ∀ q v, c[q]? = some v → olds[j * t.size + q]? = some v := by
      rcases hr with h0 | ⟨b, oo, eb, rfl, hrow, _⟩
      · have hl0 : l = [] := List.eq_nil_of_length_eq_zero (by omega)
        subst hl0
        refine ⟨[], ?_, by simp, by simp⟩
        cases ad <;> simp [Builtin.firstCells, loadCells, loadCellsFrom]
      · obtain ⟨cs, hblk, hrm, hel⟩ := hrow
        obtain ⟨olds, q1, q2, q3, q4⟩ := row_cells hp (w := w) (I := I) (tk := tk) (l := l) (f := fun j => cs[oo + j]?) (fun j y hj => by
          obtain ⟨c, hc, hv⟩ := hel j y hj
          exact ⟨c, hc, fun q v hq => by rw [← Nat.add_assoc]; exact hv q v hq⟩)
        refine ⟨olds, run_firstCells_some w.drew t.size l.length _ _ _ olds q1 (fun j v hj => ?_), q1, q4⟩
        rw [addr_add]
        exact (cell_of_heap (w := w) (w' := w.drew) rfl _).trans (by rw [hblk.cell]; exact q2 j v hj)
    obtain ⟨olds, q1, q2, q3⟩ := olds
    have hns := hmore.size
    have hrun := append_grow (P := C.P) (ty := ty) w hue hi hz h2 hu (ad := ad) (len := l.length) (cap := cap) hmore.len (by rw [hsz]; exact hfc w.drew rfl) (by rw [hsz]; exact q1) hg (by omega) (growslice_fits hg (by omega))
    have hge := grownCap_ge w (l.length + ys.length) cap e
    have hys : ys.isEmpty = false := by
      cases ys with
      | nil => simp at hg; omega
      | cons => rfl
    rw [hys, Bool.and_false]
    have hG : Grew w (w.drew.alloc (.cells (olds.toArray ++ news.toArray ++ Builtin.zeroCells z.cells (grownCap w (l.length + ys.length) cap e - (l.length + ys.length))) e)) := (Grew.drew w).trans (Grew.alloc w.drew _)
    have hb := Blk.alloc w.drew (olds.toArray ++ news.toArray ++ Builtin.zeroCells z.cells (grownCap w (l.length + ys.length) cap e - (l.length + ys.length))) e
    obtain ⟨tok', h4, h5⟩ := h.newDyn hd hG (by simp) (T := e) (t := t) (l := l ++ ys) (cap := grownCap w (l.length + ys.length) cap e) hb hA hp (by simpa using hge) (by
        simp only [Array.toList_append, List.length_append, Array.length_toList, List.size_toArray, Builtin.zeroCells, Array.size_map, Array.size_range, q2, hns, hzs, ← Nat.add_mul]
        exact Nat.le_of_eq (by congr 1; omega)) (fun j y hj => by
        rcases Nat.lt_or_ge j l.length with hjl | hjl
        · rw [List.getElem?_append_left hjl] at hj
          obtain ⟨c, hc, hv⟩ := q3 j y hj
          refine ⟨c, hc, fun q v hq => ?_⟩
          have hv' := hv q v hq
          have := (List.getElem?_eq_some_iff.1 hv').1
          simp only [Array.toList_append, List.append_assoc]
          rw [List.getElem?_append_left (by omega)]
          exact hv'
        · rw [List.getElem?_append_right hjl] at hj
          obtain ⟨c, hc, hv⟩ := hmore.rep _ y hj
          refine ⟨c, hc, fun q v hq => ?_⟩
          have hv' := hv q v hq
          have := (List.getElem?_eq_some_iff.1 hv').1
          have hm3 : j * t.size = l.length * t.size + (j - l.length) * t.size := by rw [← Nat.add_mul]; congr 1; omega
          simp only [Array.toList_append, List.append_assoc]
          rw [List.getElem?_append_right (by omega), List.getElem?_append_left (by omega), ← hv']
          congr 1; omega)
    refine ⟨_, _, tok', hrun, h4, ?_⟩
    rw [List.length_append] at h5
    exact h5

/-- A box is given up, and its row is nobody's. -/
theorem Inv.giveUp (h : Inv C st tm w I tk) {g : Nat} {q : Tk} (hq : tk g = some q) : Inv C (runPs [.kill g, .del g] st) tm w I (tk.drop g) ∧ ∀ b, q.blk = some b → (∀ s q', tk.drop g s = some q' → q'.blk ≠ some b) ∧ ¬ I b ∧ (C.w0.heap.size ≤ b ∨ ∃ (j : Nat) (q' : Tk), C.xs[j]? = some q' ∧ q'.blk = some b) ∧ b < w.heap.size := by
  have h1 := ((h.kill g).delBox g).dropTok (g := g) (free_kill st g |> fun hf => ⟨hf.1, fun r d hr hb => by
    rw [box_del, if_neg hr] at hb
    exact hf.2 r d hr hb⟩) (by rw [box_del, if_pos rfl])
  refine ⟨h1, fun b hb => ⟨fun s q' hs hb' => ?_, h.tokI g q b hq hb, h.fresh g q b hq hb, h.tokLt g q b hq hb⟩⟩
  obtain ⟨hne, hs⟩ := drop_some hs
  exact hne (h.inj s g q' q b hs hq hb' hb)
theorem OwnRep.part {b o cap : Nat} {e : TypeId} {t : Ty} {l : List t.den} (h : OwnRep w I tk b e o cap t l) {lo n : Nat} (hl : lo + n ≤ cap) : OwnRep w I tk b e (o + lo * t.size) (cap - lo) t ((l.drop lo).take n) := by
  obtain ⟨cs, h1, h2, h3⟩ := h
  refine ⟨cs, h1, ?_, fun i x hx => ?_⟩
  · have : lo * t.size + (cap - lo) * t.size = cap * t.size := by rw [← Nat.add_mul]; congr 1; omega
    omega
  · obtain ⟨hi, hx⟩ := part_get _ _ _ _ _ hx
    obtain ⟨c, hc, hv⟩ := h3 _ x hx
    refine ⟨c, hc, fun j v hj => ?_⟩
    have := hv j v hj
    rw [Nat.add_mul] at this
    rw [← this]; congr 1; omega
theorem More.toks {t : Ty} (hp : t.plain = true) {ys : List t.den} {x : Value} {news : List Value} (h : More P w I tk t ys x news) : More P w I tk' t ys x news :=
  ⟨h.len, h.cellsK, h.size, h.one, fun i y hy => by obtain ⟨c, hc, hv⟩ := h.rep i y hy; exact ⟨c, hc.plain hp, hv⟩⟩

theorem isT_sl {T : TypeId} {u : Ty} (h : E.isT T (.sl u) = true) : E.T T = some (.sl u) := by
  unfold Env.isT at h
  split at h
  · rename_i t hT
    simp only [Bool.or_false, decide_eq_true_eq] at h
    rw [hT, ← h]
  · cases h
theorem append_good {T T2 ty : TypeId} {s1 s2 : SV} {v1 v2 : Value} {dst : Option Nat} (hE : EnvOK C.P E) (hV : View sv st) (h : Inv C st tm w I tk) (hd : ∀ d, dst = some d → d < st.sl.length) (h1 : SRep w I tk s1 v1) (h2 : SRep w I tk s2 v2)
    (hT2 : (∃ t, E.T T2 = some (.sl t)) ∨ E.T T2 = some .str) (hf : appendP E dst T s1 s2 sv = some (true, e)) :
    ∃ v w' tk' d t, e.v = some (.va d t) ∧ dst = some d ∧ (Builtin.append_ #[T, T2] ty #[v1, v2]).run C.P w = .ok v w' ∧ Inv C (runPs e.ps st) tm w' I tk' ∧ SRep w' I tk' (.va d t) v := by
  obtain ⟨u2, hu2, hsos⟩ : ∃ u2, C.P.underlying T2 = some u2 ∧ sliceOrString u2 := by
    rcases hT2 with ⟨t, e1⟩ | e1
    · obtain ⟨_, e2, hu, _⟩ := hE.ty T2 _ e1; exact ⟨_, hu, .inl ⟨_, rfl⟩⟩
    · obtain ⟨_, hu⟩ := hE.ty T2 _ e1; exact ⟨_, hu, .inr rfl⟩
  unfold appendP at hf
  split at hf
  · rename_i u ys hys
    -- the last step, alike in all cases
    have fin : ∀ {t : Ty} {nl : Bool} {l : List t.den} {ps : List Pm} {tk1 : Toks} {ad : Option Addr} {cap : Nat}, t.plain = true → Inv C (runPs ps st) tm w I tk1 → v1 = .slice ad l.length cap → (nl = true ↔ ad = none) → l.length ≤ cap →
        FreeRow C w I tk1 ad cap t l → appendTo E dst T u ys t nl l ps = some (true, e) →
        ∃ v w' tk' d t, e.v = some (.va d t) ∧ dst = some d ∧ (Builtin.append_ #[T, T2] ty #[v1, v2]).run C.P w = .ok v w' ∧ Inv C (runPs e.ps st) tm w' I tk' ∧ SRep w' I tk' (.va d t) v := by
      intro t nl l ps tk1 ad cap hp h3 e1 hnl hcap hr ha
      unfold appendTo at ha
      split at ha
      · rename_i hut
        subst hut
        cases hT : E.isT T (.sl u) with
        | false => rw [hT] at ha; cases ha
        | true =>
        rw [hT] at ha
        simp only [cond_true] at ha
        obtain ⟨e', he', hq⟩ := Option.map_eq_some_iff.1 ha
        simp only [Prod.mk.injEq, decide_eq_true_eq] at hq
        obtain ⟨hbig, rfl⟩ := hq
        subst e1
        unfold newSl at he'
        split at he'
        · rename_i d
          cases he'
          obtain ⟨news, hmore⟩ := more_cells (P := C.P) hV h hp h2 hys
          obtain ⟨v, w', tk', g1, g2, g3⟩ := append_core (T := T) (T2 := T2) (ty := ty) hE h3 (d := d) (by rw [runPs_len]; exact hd d rfl) hp (isT_sl hT) hu2 hsos (hmore.toks hp) hnl hcap hr hbig
          exact ⟨v, w', tk', d, u, rfl, rfl, g1, by rw [runPs_append]; exact g2, g3⟩
        · cases he'
      · cases ha
    split at hf
    · rename_i g t0
      split at hf
      · rename_i t l hb
        obtain ⟨q, g1, g2, rfl⟩ := h1
        obtain ⟨q', g3, g4⟩ := h.boxes _ _ (hV.box _ _ hb)
        rw [g1] at g3; cases g3
        obtain ⟨k1, hp, k2, k3, k4, k5⟩ := g4
        obtain ⟨h3, h4⟩ := h.giveUp g1
        refine fin hp h3 (by unfold Tk.hdr; rw [k2]) k4 k3 ?_ hf
        rcases k5 with ⟨_, k5⟩ | ⟨b, k5, k6, k7⟩
        · exact .inl k5
        · obtain ⟨m1, m2, m3, m4⟩ := h4 b k5
          have hty := h.tys g q b g1 k5
          unfold TokTy at hty
          rw [k1] at hty
          exact .inr ⟨b, q.off, q.tid, k6, k7.plain hp, m1, m2, m3, m4, hty⟩
      · cases hf
    · rename_i g t0 lo n
      split at hf
      · rename_i t l hb
        obtain ⟨q, g1, g2⟩ := h1
        obtain ⟨q', g3, g4⟩ := h.boxes _ _ (hV.box _ _ hb)
        rw [g1] at g3; cases g3
        obtain ⟨k1, hp, k2, k3, k4, k5⟩ := g4
        obtain ⟨h3, h4⟩ := h.giveUp g1
        rcases g2 with ⟨_, hty, ⟨hl1, hl2⟩, ad', rfl, ha, hn⟩ | ⟨b, off, m, hat, _⟩
        · have hlen : ((l.2.drop lo).take n).length = n := by simp; omega
          have ht0 : t0 = t := by rw [k1] at hty; cases hty; rfl
          subst ht0
          refine fin hp h3 (by rw [hlen]) (ad := ad') (cap := q.cap - lo) ?_ (by rw [hlen]; omega) ?_ hf
          · rw [hn, ← k4]
            constructor
            · intro h5; simp only [Bool.and_eq_true] at h5; exact h5.1
            · intro h5
              have hz := k4.1 h5
              rcases k5 with ⟨_, k5⟩ | ⟨b, k5, k6, k7⟩
              · rw [h5]; simp only [Bool.true_and, decide_eq_true_eq]; omega
              · rw [hz] at k6; cases k6
          · rcases k5 with ⟨_, k5⟩ | ⟨b, k5, k6, k7⟩
            · exact .inl (by omega)
            · obtain ⟨m1, m2, m3, m4⟩ := h4 b k5
              have hty := h.tys g q b g1 k5
              unfold TokTy at hty
              rw [k1] at hty
              by_cases hlo : lo < q.cap
              · exact .inr ⟨b, q.off + lo * t0.size, q.tid, by rw [ha hlo, k6]; simp [addr_add], (k7.plain hp).part (by omega), m1, m2, m3, m4, hty⟩
              · exact .inl (by omega)
        · exfalso
          obtain ⟨o, _, e2, _⟩ := Tk.at_some hat
          rw [k1, pathAt_nil] at e2
          cases e2
      · cases hf
    · split at hf
      · rename_i t hT
        have e1 : v1 = .slice none 0 0 := h1
        cases hp : t.plain with
        | false => rw [hp] at hf; cases hf
        | true =>
        rw [hp] at hf
        exact fin (ps := []) (ad := none) (cap := 0) (l := []) hp h e1 (by simp) (Nat.le_refl _) (.inl rfl) hf
      · cases hf
    · cases hf
  · cases hf
end Go.Own
