/- What is proved: loads, stores, strings and the other operations are sound. Conditions: those that each theorem names. -/
import Derived.Test.YtipheoipbjakfaaCoC
import Derived.Laws.MakeOwn
import Derived.Great.BuildSlice
import Derived.Laws.IdiomStrings
import Derived.Laws.BytesArg
set_option linter.unusedVariables false
set_option linter.unusedSimpArgs false
/- Operations, one by one: rows that are made. -/
set_option linter.unusedVariables false
namespace Go.Own
variable {P : Program} {E : Env} {w0 w w' : World} {I0 I : Nat → Prop} {xs : List Nat} {st st' : St} {tm : Array Value} {tok : Tok} {ds : List Deferred} {o : Oper}

/-- Slot d's own slice: its block. -/
def Tok.withSl (tok : Tok) (d : Nat) (b : Option Nat) : Tok
  | .sl i => if i = d then b else tok (.sl i)
  | .tc i j => if i = d then none else tok (.tc i j)
  | .box s => tok (.box s)

/-- A row that is nobody's is slot d's. -/
theorem Inv.putRow (h : Inv w0 I0 xs st tm w I tok) {d : Nat} (hd : d < st.sl.length) {b oo cap : Nat} {t : Ty} {l : List t.den} (hfree : ∀ k, tok k ≠ some b) (hI : ¬ I b) (hnew : w0.heap.size ≤ b) (hlt : b < w.heap.size)
    (hrow : OwnRep w I b oo cap t l) (hcap : l.length ≤ cap) :
    Inv w0 I0 xs (st.put d (.own t false l)) (tm.setIfInBounds d (.slice (some ⟨b, oo, none⟩) l.length cap)) w I (tok.withSl d (some b)) := by
  refine h.put hd ?_ ?_ ?_
  · intro k hk
    cases k <;> simp_all [Tok.withSl, Key.at]
  · intro k b' hk hb
    cases k with
    | box s => exact absurd hk (by simp [Key.at])
    | tc i j => simp only [Key.at] at hk; simp [Tok.withSl, hk] at hb
    | sl i =>
      simp only [Key.at] at hk; subst hk
      simp only [Tok.withSl, if_true, Option.some.injEq] at hb; subst hb
      refine ⟨hlt, hI, hnew, fun k' hk' => ?_⟩
      cases k' with
      | box s => exact absurd hk' (hfree _)
      | tc a j =>
        simp only [Tok.withSl] at hk'
        split at hk'
        · cases hk'
        · exact absurd hk' (hfree _)
      | sl a =>
        simp only [Tok.withSl] at hk'
        split at hk'
        · rename_i e; rw [e]
        · exact absurd hk' (hfree _)
  · show ownVal w I (Tok.withSl tok d (some b) (.sl d)) t false l _
    exact ⟨_, _, rfl, by simp, hcap, .inr ⟨b, oo, by simp [Tok.withSl], rfl, hrow⟩⟩

theorem Inv.putNil (h : Inv w0 I0 xs st tm w I tok) {d : Nat} (hd : d < st.sl.length) {t : Ty} :
    Inv w0 I0 xs (st.put d (.own t true [])) (tm.setIfInBounds d (.slice none 0 0)) w I (tok.drop d) := by
  refine h.put hd (drop_other tok d) (fun k b hk hb => by rw [drop_at tok d k hk] at hb; cases hb) ?_
  show ownVal w I (tok.drop d (.sl d)) t true [] _
  exact ⟨_, _, rfl, by simp, Nat.le_refl _, .inl ⟨by simp [Tok.drop], rfl⟩⟩

/-- A new row: a block is made. -/
theorem Inv.newRow (h : Inv w0 I0 xs st tm w I tok) {c : Array Value} {T : TypeId} {d : Nat} (hd : d < st.sl.length) {cap : Nat} {t : Ty} {l : List t.den} (hcap : l.length ≤ cap) (hroom : cap * t.size ≤ c.size)
    (hel : ∀ i x, l[i]? = some x → ∃ c', cellsRep w I t x c' ∧ ∀ j v, c'[j]? = some v → c.toList[i * t.size + j]? = some v) :
    ∃ tok', Inv w0 I0 xs (st.put d (.own t false l)) (tm.setIfInBounds d (.slice (some ⟨w.heap.size, 0, none⟩) l.length cap)) (w.alloc (.cells c T)) I tok' := by
  have h1 := h.grow (Grew.alloc w (.cells c T))
  refine ⟨_, h1.putRow hd (b := w.heap.size) (fun k hk => ?_) (fun hb => ?_) h.size (by simp) ⟨c.toList, Blk.alloc w c T, by simpa using hroom, fun i x hx => ?_⟩ hcap⟩
  · exact absurd (h.tokLt k _ hk) (Nat.lt_irrefl _)
  · exact absurd (h.ilt _ hb) (Nat.lt_irrefl _)
  · obtain ⟨c', h2, h3⟩ := hel i x hx
    refine ⟨c', h2.mono (fun _ hb => hb) (fun b hb => (Grew.alloc w _).block b (h.ilt b hb)), fun j v hj => ?_⟩
    rw [Nat.zero_add]; exact h3 j v hj

/-- An operation that makes a row. -/
theorem OpGood.row {st1 : St} (h : Inv w0 I0 xs st1 tm w I tok) (hd : ∀ d, o.dst = some d → d < st1.sl.length) {c : Array Value} {T : TypeId} {cap : Nat} {t : Ty} {l : List t.den}
    (hr : (execOp (Act.eval ⟨tm, ds⟩) o).run P w = .ok (.value (.slice (some ⟨w.heap.size, 0, none⟩) l.length cap)) (w.alloc (.cells c T))) (hcap : l.length ≤ cap) (hroom : cap * t.size ≤ c.size)
    (hel : ∀ i x, l[i]? = some x → ∃ c', cellsRep w I t x c' ∧ ∀ j v, c'[j]? = some v → c.toList[i * t.size + j]? = some v) :
    OpGood P o ds w0 I0 xs (st1.putO o.dst (.own t false l)) tm w := by
  cases hod : o.dst with
  | none => exact ⟨_, _, I, tok, .inl hr, by rw [hod]; exact h.grow (Grew.alloc w _)⟩
  | some d =>
    obtain ⟨tok', h1⟩ := h.newRow (hd d hod) hcap hroom hel (T := T)
    exact ⟨_, _, I, tok', .inl hr, by rw [hod]; exact h1⟩

theorem madeCells_get (z : Array Value) (n k : Nat) (hz : 0 < z.size) (hk : k < n) : (madeCells z n).toList[k]? = z[k % z.size]? := by
  have := Nat.mod_lt k hz
  simp [madeCells, hk, this]

theorem elem_zero (w : World) {e : TypeId} {t : Ty} (hA : TyAt P e t) : ∃ i z, P.info? e = some i ∧ i.zero = some z ∧ z.cells.toList = t.zcells ∧ i.size = t.size ∧ z.cells.size = t.size := by
  obtain ⟨i, z, hi, hz, hc⟩ := hA.base.zero
  have hs := hA.base.size
  rw [hi] at hs
  have hs' : i.size = t.size := by simpa using hs
  refine ⟨i, z, hi, hz, hc, hs', ?_⟩
  have := (zcells_rep w (fun _ => False) t).length
  rw [← hc] at this
  simpa using this

theorem made_row {t : Ty} {z : Array Value} (hz : z.toList = t.zcells) (hs : z.size = t.size) (n c : Nat) (hn : n ≤ c) (i : Nat) (x : t.den) (hx : (List.replicate n t.dflt)[i]? = some x) :
    ∃ c', cellsRep w I t x c' ∧ ∀ j v, c'[j]? = some v → (madeCells z (c * t.size)).toList[i * t.size + j]? = some v := by
  rw [List.getElem?_replicate] at hx
  split at hx
  · rename_i hi
    cases hx
    refine ⟨t.zcells, zcells_rep w I t, fun j v hj => ?_⟩
    have hjl := (List.getElem?_eq_some_iff.1 hj).1
    have hzl : t.zcells.length = t.size := by rw [← hz]; simpa using hs
    have hm : (i + 1) * t.size ≤ c * t.size := Nat.mul_le_mul_right _ (by omega)
    rw [Nat.add_mul, Nat.one_mul] at hm
    rw [madeCells_get _ _ _ (by omega) (by omega), hs, Nat.mul_comm, Nat.mul_add_mod, Nat.mod_eq_of_lt (by omega), ← hj, ← hz]
    simp
  · cases hx

theorem make_room {l c : Int} {B i : Nat} (h1 : 0 ≤ l) (h2 : l ≤ c) (h3 : c * (B : Int) ≤ 70368744177664) (hB : i ≤ B) (h0 : 0 < B) :
    0 ≤ c ∧ (i : Int) * c ≤ 281474976710656 ∧ c ≤ 9223372036854775807 ∧ l.toNat ≤ c.toNat := by
  have hc : 0 ≤ c := by omega
  have h4 : (i : Int) * c ≤ (B : Int) * c := Int.mul_le_mul_of_nonneg_right (by omega) hc
  have h5 : c * 1 ≤ c * (B : Int) := Int.mul_le_mul_of_nonneg_left (by omega) hc
  rw [Int.mul_comm] at h3
  rw [Int.mul_comm c B] at h5
  omega

theorem op_makeSlice {T : TypeId} {l c : Operand} (hE : EnvOK P E) (h : Inv w0 I0 xs st tm w I tok) (hd : ∀ d, o.dst = some d → d < st.sl.length) (ho : o.op = .makeSlice T l c) (hf : opF E o st = some (true, st')) :
    OpGood P o ds w0 I0 xs st' tm w := by
  have hl := ev_rep (ds := ds) h l
  have hc := ev_rep (ds := ds) h c
  simp only [opF, ho] at hf
  split at hf
  · rename_i t k1 l0 k2 c0 hT e1 e2
    simp only [Option.some.injEq, Prod.mk.injEq, Bool.and_eq_true, decide_eq_true_eq] at hf
    obtain ⟨⟨⟨hc1, hc2⟩, hc3⟩, rfl⟩ := hf
    rw [e1] at hl; rw [e2] at hc
    have v1 := valRep_int.1 hl.p
    have v2 := valRep_int.1 hc.p
    obtain ⟨_, e, hu, hA⟩ := hE.ty T _ hT
    obtain ⟨i, z, hi, hz, hzc, hsz, hzs⟩ := elem_zero (P := P) w hA
    obtain ⟨hB, hB0⟩ := hE.bytes T e i hu (by rw [hT]; rfl) hi
    obtain ⟨hc0, hbytes, h63, hlc⟩ := make_room hc1 hc2 hc3 hB hB0
    have hr := run_make (P := P) w T e i z hu hi hz k1 k2 l0 c0 hc1 hc2 hbytes h63
    refine OpGood.row (P := P) (l := List.replicate (l0 : Int).toNat t.dflt) (cap := (c0 : Int).toNat) h hd (c := madeCells z.cells ((c0 : Int).toNat * t.size)) (T := e) ?_ (by rw [List.length_replicate]; exact hlc) (by rw [size_madeCells]; exact Nat.le_refl _) ?_
    · simp only [execOp, ho, v1, v2]
      rw [Sem.run_bind, hr, hsz]
      simp
    · intro j x hx
      exact made_row hzc hzs _ _ hlc j x hx
  · cases hf
end Go.Own

/- Operations, one by one: literals, function values. -/
set_option linter.unusedVariables false
namespace Go.Own
variable {P : Program} {E : Env} {w0 w w' : World} {I0 I : Nat → Prop} {xs : List Nat} {st st' : St} {tm : Array Value} {tok : Tok} {ds : List Deferred} {o : Oper}

/-- One part goes in. -/
theorem fill_cons {place : Nat → Option (Nat × Nat)} {cells : Array Value} {i off n : Nat} {v : Value} {rest : List (Nat × Value)} (hp : place i = some (off, n)) (hn : v.cells.size = n) (hle : off + n ≤ cells.size) :
    ∃ cells' : Array Value, Instr.fill place cells ((i, v) :: rest) = Instr.fill place cells' rest ∧ cells'.toList = splice cells.toList off v.cells.toList := by
  obtain ⟨g1, g2⟩ := Great.foldl_set off v.cells.toList 0 cells
  refine ⟨(v.cells.toList.zipIdx 0).foldl (fun cs (x : Value × Nat) => cs.setIfInBounds (off + x.2) x.1) cells, ?_, ?_⟩
  · conv => lhs; unfold Instr.fill
    rw [hp]
    simp only
    rw [if_neg (by simp; omega)]
    congr 1
    rw [← Array.foldl_toList]
    simp
  · apply list_ext
    intro k
    rw [splice_get _ _ _ (by simp; omega), Array.getElem?_toList, g2 k]
    simp only [Nat.add_zero, Array.length_toList, Array.getElem?_toList]
    split
    · rw [if_pos (by omega)]
    · rename_i hk
      split
      · rename_i hk2; exact absurd ⟨hk2.1, by omega, by omega⟩ hk
      · rfl

/-- What data parts come to. -/
theorem buildS_fill {isArr : Bool} {place : Nat → Option (Nat × Nat)} {t : Ty}
    (hpl : ∀ i u, tyAt t (bif isArr then [.ix i] else fieldPath i) = some u → pathIn t (bif isArr then [.ix i] else fieldPath i) → ∃ off, pathAt t (bif isArr then [.ix i] else fieldPath i) = some (off, u) ∧ place i = some (off, u.size)) :
    ∀ {parts : List (Nat × SV)} {vs : List (Nat × Value)} {x y : t.den} {cells : Array Value}, buildS isArr t x parts = some y → cellsRep w I t x cells.toList →
      (∀ i u, t.has i = true → tyAt t (bif isArr then [.ix i] else fieldPath i) = some u → pathIn t (bif isArr then [.ix i] else fieldPath i)) →
      parts.length = vs.length → (∀ (k : Nat) (p : Nat × SV) (v : Nat × Value), parts[k]? = some p → vs[k]? = some v → p.1 = v.1 ∧ ∀ d, p.2 = .p d → valRep w I d.1 d.2 v.2) →
      ∃ r : Array Value, Instr.fill place cells vs = some r ∧ cellsRep w I t y r.toList := by
  intro parts
  induction parts with
  | nil =>
    intro vs x y cells hb hc _ hl _
    cases vs with
    | cons => cases hl
    | nil =>
      have e : some x = some y := by simpa [buildS] using hb
      cases e
      exact ⟨cells, rfl, hc⟩
  | cons p parts ih =>
    intro vs x y cells hb hc hin hl hv
    cases vs with
    | nil => cases hl
    | cons v vs =>
      obtain ⟨i, s⟩ := p
      obtain ⟨i', v⟩ := v
      obtain ⟨e, hvr⟩ := hv 0 (i, s) (i', v) rfl rfl
      simp only at e hvr
      subst e
      cases s with
      | p d =>
        simp only [buildS] at hb
        cases hh : t.has i with
        | false => rw [hh] at hb; cases hb
        | true =>
        rw [hh] at hb
        simp only [cond_true] at hb
        obtain ⟨z, hz, hb2⟩ := Option.bind_eq_some_iff.1 hb
        have hu := setP_ty hz
        have hpi := hin i _ hh hu
        obtain ⟨off, ha, hp⟩ := hpl i d.1 hu hpi
        have hr := hvr d rfl
        obtain ⟨off', h1, h2, h3⟩ := setP_cells (y := d.2) hc hz hpi hr.cells
        rw [ha] at h1; simp only [Option.some.injEq, Prod.mk.injEq, and_true] at h1; subst h1
        have hsz : v.cells.size = d.1.size := by simpa using hr.cells.length
        have hcl : cells.size = t.size := by simpa using hc.length
        obtain ⟨cells', h4, h5⟩ := fill_cons (cells := cells) (rest := vs) hp hsz (by omega)
        rw [h4]
        rw [← h5] at h2
        exact ih hb2 h2 hin (by simpa using hl) (fun k p q hp hq => hv (k + 1) p q (by simpa using hp) (by simpa using hq))
      | _ => cases hb

theorem fields_places : ∀ {fs : List Field} {off : Nat} {t : Ty}, FieldsAt P fs off t →
    ∃ places, fs.mapM (fun f => (P.info? f.type).map fun i => (f.offset, i.size)) = some places ∧ ∀ n u, tyAt t (fieldPath n) = some u → ∃ o, pathAt t (fieldPath n) = some (o, u) ∧ places[n]? = some (off + o, u.size) := by
  intro fs
  induction fs with
  | nil =>
    intro off t h
    refine ⟨[], rfl, fun n u hu => ?_⟩
    cases t <;> simp only [FieldsAt, tyAF] at h
    · cases n <;> simp [fieldPath, tyAt] at hu
    · obtain ⟨f, r, e, _⟩ := h; cases e
  | cons g r ih =>
    intro off t h
    cases t <;> simp only [FieldsAt, tyAF] at h
    · cases h
    · rename_i a b
      obtain ⟨f, r', e, ho, h1, h2⟩ := h
      cases e
      obtain ⟨pl, hpl, hget⟩ := ih (off := off + a.size) (t := b) h2
      obtain ⟨i, z, hi, hz, hc⟩ := TyAt.base (P := P) (T := g.type) (t := a) h1
      |>.zero
      have hs := (TyAt.base (P := P) (T := g.type) (t := a) h1).size
      rw [hi] at hs
      have hs' : i.size = a.size := by simpa using hs
      refine ⟨(g.offset, i.size) :: pl, by simp [List.mapM_cons, hi, hpl], fun n u hu => ?_⟩
      cases n with
      | zero =>
        have : a = u := by cases a <;> simpa [fieldPath, tyAt] using hu
        subst this
        refine ⟨0, by cases a <;> rfl, by simp [ho, hs']⟩
      | succ n =>
        obtain ⟨o, h3, h4⟩ := hget n u (by simpa [fieldPath, tyAt] using hu)
        refine ⟨a.size + o, by simp [fieldPath, pathAt, h3], ?_⟩
        rw [List.getElem?_cons_succ, h4]; congr 2; omega

theorem parts_p {parts : List (Nat × Operand)} {k : Nat} {p : Nat × SV} (h : (partsOf E st parts)[k]? = some p) :
    ∃ q, parts[k]? = some q ∧ p.1 = q.1 ∧ ∀ d, p.2 = .p d → dataOf E st 0 (ev st q.2) = some d := by
  unfold partsOf at h
  rw [List.getElem?_map] at h
  obtain ⟨q, hq, rfl⟩ := Option.map_eq_some_iff.1 h
  refine ⟨q, hq, rfl, fun d hd => ?_⟩
  simp only at hd
  split at hd
  · rename_i d' e; rw [e]; cases hd; rfl
  · split at hd
    · rename_i d' e; cases hd; exact e
    · cases hd

theorem parts_vals (hE : EnvOK P E) (h : Inv w0 I0 xs st tm w I tok) (parts : Array (Nat × Operand)) :
    ∃ I' tok', Inv w0 I0 xs (st.freezeAll (parts.toList.map fun (_, x) => ev st x)) tm w I' tok' ∧
      (∀ (k : Nat) (p : Nat × SV) (v : Nat × Value), (partsOf E st parts.toList)[k]? = some p → (parts.toList.map fun (i, x) => (i, Act.eval ⟨tm, ds⟩ x))[k]? = some v → p.1 = v.1 ∧ ∀ d, p.2 = .p d → valRep w I' d.1 d.2 v.2) := by
  obtain ⟨I', tok', h1, h2, h3, h4⟩ := datas_rep hE (parts.toList.map fun (_, x) => ev st x) h
  refine ⟨I', tok', h1, fun k p v hp hv => ?_⟩
  obtain ⟨q, hq, e1, hd⟩ := parts_p hp
  rw [List.getElem?_map, hq] at hv
  simp only [Option.map_some, Option.some.injEq] at hv
  subst hv
  exact ⟨e1, fun d e => h4 (ev st q.2) (List.mem_map.2 ⟨q, List.mem_of_getElem? hq, rfl⟩) 0 _ d (ev_rep h q.2) (hd d e)⟩

theorem has_in {n : Nat} {t : Ty} {i : Nat} (h : (Ty.arr n t).has i = true) : pathIn (.arr n t) [.ix i] := by
  simp only [Ty.has, decide_eq_true_eq] at h
  exact ⟨h, by cases t <;> trivial⟩

theorem pathAt_ix {n : Nat} {t u : Ty} {i : Nat} (h : tyAt (.arr n t) [.ix i] = some u) : pathAt (.arr n t) [.ix i] = some (i * t.size, u) ∧ u = t := by
  have e : t = u := by cases t <;> simpa [tyAt] using h
  subst e
  have : pathAt t [] = some (0, t) := by cases t <;> rfl
  simp [pathAt, this]

theorem op_build {T : TypeId} {parts : Array (Nat × Operand)} (hE : EnvOK P E) (h : Inv w0 I0 xs st tm w I tok) (hd : ∀ d, o.dst = some d → d < st.sl.length) (ho : o.op = .build T parts) (hf : opF E o st = some (true, st')) :
    OpGood P o ds w0 I0 xs st' tm w := by
  simp only [opF, ho] at hf
  split at hf
  · rename_i ox t hT
    cases hag : t.isAgg with
    | false => rw [hag] at hf; cases hf
    | true =>
    rw [hag] at hf
    simp only [cond_true] at hf
    split at hf
    · rename_i oy y hy
      simp only [Option.some.injEq, Prod.mk.injEq, true_and] at hf; subst hf
      have hA := hE.ty T _ hT
      obtain ⟨it, z, hit, hz, hzc⟩ := hA.base.zero
      obtain ⟨I', tok', h1, hvals⟩ := parts_vals (ds := ds) hE h parts
      have hz0 : cellsRep w I' t t.dflt z.cells.toList := by rw [hzc]; exact zcells_rep w I' t
      have key : ∃ r : Array Value, P.built T (parts.map fun (i, x) => (i, Act.eval ⟨tm, ds⟩ x)).toList = some r ∧ cellsRep w I' t y r.toList := by
        rw [Array.toList_map]
        cases t <;> simp only [Ty.isAgg, Bool.false_eq_true] at hag
        case unit =>
          obtain ⟨_, _, fs, hu, hfs⟩ := hA
          obtain ⟨r, h5, h6⟩ := buildS_fill (place := fun x => ([] : List (Nat × Nat))[x]?) (isArr := false) (fun i u hu' _ => by cases i <;> simp [fieldPath, tyAt] at hu') hy hz0 (fun i u _ hu' => fieldPath_in hu') (by simp [partsOf]) hvals
          exact ⟨r, by simpa [Program.built, hit, hu, hz, hfs] using h5, h6⟩
        case pair a b =>
          obtain ⟨_, _, fs, hu, _, f, r, hfr, hoff, h7, h8⟩ := hA
          have hF : FieldsAt P fs.toList 0 (.pair a b) := ⟨f, r, hfr, hoff, h7, by simpa [FieldsAt] using h8⟩
          obtain ⟨places, hpl, hget⟩ := fields_places hF
          obtain ⟨r, h5, h6⟩ := buildS_fill (place := fun x => places[x]?) (isArr := false) (fun i u hu' _ => by
            obtain ⟨o, h9, h10⟩ := hget i u hu'
            exact ⟨o, h9, by simpa using h10⟩) hy hz0 (fun i u _ hu' => fieldPath_in hu') (by simp [partsOf]) hvals
          exact ⟨r, by simpa [Program.built, hit, hu, hz, hpl] using h5, h6⟩
        case arr n t =>
          obtain ⟨_, e, hu, hAe⟩ := hA
          obtain ⟨ie, ze, hie, _, _, hsz, _⟩ := elem_zero (P := P) w hAe
          obtain ⟨r, h5, h6⟩ := buildS_fill (place := fun i => some (i * ie.size, ie.size)) (isArr := true) (fun i u hu' _ => by
            obtain ⟨e1, e2⟩ := pathAt_ix hu'
            exact ⟨_, e1, by rw [hsz, e2]⟩) hy hz0 (fun i u hh _ => has_in hh) (by simp [partsOf]) hvals
          exact ⟨r, by simpa [Program.built, hit, hu, hz, hie] using h5, h6⟩
      obtain ⟨r, hr, hrep⟩ := key
      have hrun := run_build (P := P) w T _ r hr
      have hg := OpGood.p (P := P) (o := o) (ds := ds) (x := ⟨t, y⟩) (v := .agg r) h1 (fun d hod => by rw [freezeAll_len]; exact hd d hod) (by
        simp only [execOp, ho]
        rw [Sem.run_bind, hrun]; rfl) (by simp only [valRep, hag, if_true]; exact ⟨r, rfl, hrep⟩)
      exact hg
    · cases hf
  · cases hf
end Go.Own

/- Operations, one by one: slice literals, function values, lengths, conversions, parts of slices. -/
set_option linter.unusedVariables false
namespace Go.Own
variable {P : Program} {E : Env} {w0 w w' : World} {I0 I : Nat → Prop} {xs : List Nat} {st st' : St} {tm : Array Value} {tok : Tok} {ds : List Deferred} {o : Oper}

theorem made_arr {t : Ty} {z : Array Value} (hz : z.toList = t.zcells) (hs : z.size = t.size) (n : Nat) : cellsRep w I (.arr n t) (Ty.arr n t).dflt (madeCells z (n * t.size)).toList := by
  refine ⟨by simp [Ty.dflt], by simp [size_madeCells], fun i x hx => ?_⟩
  obtain ⟨c', hc, hv⟩ := made_row (w := w) (I := I) hz hs n n (Nat.le_refl _) i x hx
  have hi : i < n := by
    have := (List.getElem?_eq_some_iff.1 hx).1
    simpa [Ty.dflt] using this
  have hcl := hc.length
  have hm : (i + 1) * t.size ≤ n * t.size := Nat.mul_le_mul_right _ hi
  rw [Nat.add_mul, Nat.one_mul] at hm
  have : ((madeCells z (n * t.size)).toList.drop (i * t.size)).take t.size = c' := by
    apply list_ext
    intro k
    rw [seg_get]
    split
    · rename_i hk
      rw [List.getElem?_eq_getElem (by omega : k < c'.length)]
      exact hv k _ (List.getElem?_eq_getElem _)
    · rw [List.getElem?_eq_none (by omega)]
  rw [this]; exact hc

theorem op_buildSlice {T : TypeId} {n : Nat} {parts : Array (Nat × Operand)} (hE : EnvOK P E) (h : Inv w0 I0 xs st tm w I tok) (hd : ∀ d, o.dst = some d → d < st.sl.length) (ho : o.op = .buildSlice T n parts) (hf : opF E o st = some (true, st')) :
    OpGood P o ds w0 I0 xs st' tm w := by
  simp only [opF, ho] at hf
  split at hf
  · rename_i ox t hT
    cases hbig : decide (n * t.size ≤ 16777216) with
    | false => rw [hbig] at hf; cases hf
    | true =>
    rw [hbig] at hf
    simp only [cond_true] at hf
    split at hf
    · rename_i oy y hy
      simp only [Option.some.injEq, Prod.mk.injEq, true_and] at hf; subst hf
      obtain ⟨_, e, hu, hA⟩ := hE.ty T _ hT
      obtain ⟨ie, z, hie, hz, hzc, hsz, hzs⟩ := elem_zero (P := P) w hA
      obtain ⟨I', tok', h1, hvals⟩ := parts_vals (ds := ds) hE h parts
      have hz0 := made_arr (w := w) (I := I') hzc hzs n
      obtain ⟨r, h5, h6⟩ := buildS_fill (place := fun i => some (i * ie.size, ie.size)) (isArr := true) (t := .arr n t) (fun i u hu' _ => by
        obtain ⟨e1, e2⟩ := pathAt_ix hu'
        exact ⟨_, e1, by rw [hsz, e2]⟩) hy hz0 (fun i u hh _ => has_in hh) (by simp [partsOf]) hvals
      have hrun : (Instr.buildSlice T n (parts.map fun (i, x) => (i, Act.eval ⟨tm, ds⟩ x))).run P w = .ok (.slice (some ⟨w.heap.size, 0, none⟩) n n) (w.alloc (.cells r e)) := by
        have hb : ¬ n * ie.size > 2 ^ 24 := by rw [hsz]; have := of_decide_eq_true hbig; omega
        rw [← Array.toList_map] at h5
        by_cases h0 : n * ie.size = 0
        · have hmk : madeCells z.cells (n * t.size) = #[] := by rw [← hsz, h0]; simp [madeCells, Array.range_zero']
          rw [hmk] at h5
          simp [Instr.buildSlice, run_underlying hu, sizeOf, typeInfo, zeroValue, hie, hz, h0, newRow, Array.range_zero'] at h5 ⊢
          rw [h5]; rfl
        · exact run_buildSlice w T e n _ r ie z hu hie hz hb h0 (by rw [hsz] at *; exact h5)
      have hcl := h6.length
      have hln : y.length = n := h6.1
      refine OpGood.row (P := P) (ds := ds) (l := y) (cap := n) (c := r) (T := e) h1 (fun d hod => by rw [freezeAll_len]; exact hd d hod) ?_ (Nat.le_of_eq hln) (by rw [show r.size = (Ty.arr n t).size by simpa using hcl]; exact Nat.le_refl _) ?_
      · simp only [execOp, ho]
        rw [Sem.run_bind, hrun, hln]; rfl
      · intro i x hx
        refine ⟨_, h6.2.2 i x hx, fun j v hj => ?_⟩
        rw [seg_get] at hj
        split at hj
        · exact hj
        · cases hj
    · cases hf
  · cases hf

theorem box_freeze (st : St) (vs : List SV) (s : Nat) : (st.freezeAll vs).box s = st.box s := by unfold St.box; rw [freezeAll_bx]

theorem mapM_get {α β : Type} {f : α → Option β} : ∀ {l : List α} {r : List β}, l.mapM f = some r → r.length = l.length ∧ ∀ (k : Nat) (b : β), r[k]? = some b → ∃ a, l[k]? = some a ∧ f a = some b := by
  intro l
  induction l with
  | nil => intro r h; simp at h; subst h; simp
  | cons a l ih =>
    intro r h
    simp only [List.mapM_cons, Option.bind_eq_bind, Option.pure_def] at h
    obtain ⟨b, hb, h⟩ := Option.bind_eq_some_iff.1 h
    obtain ⟨r', hr, h⟩ := Option.bind_eq_some_iff.1 h
    cases h
    obtain ⟨h1, h2⟩ := ih hr
    refine ⟨by simp [h1], fun k c hk => ?_⟩
    cases k with
    | zero => simp at hk; subst hk; exact ⟨a, rfl, hb⟩
    | succ k => simpa using h2 k c (by simpa using hk)

theorem op_makeFunc {f : FuncId} {first caps : Array Operand} (hE : EnvOK P E) (h : Inv w0 I0 xs st tm w I tok) (hd : ∀ d, o.dst = some d → d < st.sl.length) (ho : o.op = .makeFunc (.func f) first caps) (hf : opF E o st = some (true, st')) :
    OpGood P o ds w0 I0 xs st' tm w := by
  simp only [opF, ho] at hf
  cases hfe : first.toList.isEmpty with
  | false => rw [hfe] at hf; cases hf
  | true =>
  rw [hfe] at hf
  simp only [cond_true] at hf
  have hfirst : first = #[] := by
    have : first.toList = [] := List.isEmpty_iff.1 hfe
    exact Array.toList_eq_nil_iff.1 this
  subst hfirst
  split at hf
  · rename_i ocs cs hcs
    simp only [Option.some.injEq, Prod.mk.injEq, true_and] at hf; subst hf
    obtain ⟨I', tok', h1, h2, h3, h4⟩ := datas_rep hE (caps.toList.map (ev st)) h
    obtain ⟨hlen, hget⟩ := mapM_get hcs
    refine (OpGood.s (P := P) (o := o) (ds := ds) (s := .clo f cs) (v := .func (.func f) #[] (caps.map (Act.eval ⟨tm, ds⟩))) (i := 0) (c := true) h1 (fun d hod => by rw [freezeAll_len]; exact hd d hod) ?_ ?_ (by intros; simp) (by intros; simp) ?_).2
    · simp only [execOp, ho, Instr.makeFunc]; simp
    · refine ⟨_, rfl, by simp [hlen], fun j c x hc hx => ?_⟩
      obtain ⟨a, ha, hfa⟩ := hget j c hc
      have hx' : x = Act.eval ⟨tm, ds⟩ a := by
        have : (caps.map (Act.eval ⟨tm, ds⟩))[j]? = some (Act.eval ⟨tm, ds⟩ a) := by
          rw [Array.getElem?_map]
          rw [Array.getElem?_toList] at ha
          rw [ha]; rfl
        rw [this] at hx; exact (Option.some.inj hx).symm
      subst hx'
      have hr := ev_rep (ds := ds) h a
      have hmem : ev st a ∈ caps.toList.map (ev st) := List.mem_map.2 ⟨a, List.mem_of_getElem? ha, rfl⟩
      cases he : ev st a with
      | pb s t pa =>
        rw [he] at hfa hr
        simp only [capS, Option.some.injEq] at hfa; subst hfa
        obtain ⟨i, b, off, d0, h5, h6, h7⟩ := hr
        exact ⟨b, off, d0, by rw [h3]; exact h5, by rw [box_freeze]; exact h6, h7⟩
      | p d =>
        rw [he] at hfa hr
        simp only [capS, Option.some.injEq] at hfa; subst hfa
        show valRep w I' d.1 d.2 _
        exact hr.p.mono h2 (fun _ _ => rfl)
      | _ =>
        rw [he] at hfa
        simp only [capS] at hfa
        obtain ⟨d, hdd, rfl⟩ := Option.map_eq_some_iff.1 hfa
        show valRep w I' d.1 d.2 _
        exact h4 _ hmem 0 _ d hr (by rw [he]; exact hdd)
    · cases hod : o.dst <;> simp [St.putC, SV.hang, St.putO, hod]
  · cases hf
end Go.Own

/- Operations, one by one: built-in functions of numbers, conversions, parts of slices. -/
set_option linter.unusedVariables false
namespace Go.Own
variable {P : Program} {E : Env} {w0 w w' : World} {I0 I : Nat → Prop} {xs : List Nat} {st st' : St} {tm : Array Value} {tok : Tok} {ds : List Deferred} {o : Oper}

theorem maxS_run (mx : Bool) : ∀ (r : List SV) (s : SV) (v : Value) (vs : List Value) (d : DV), maxS mx s r = some d → ORep w I tok st tm s v → vs.length = r.length →
    (∀ (k : Nat) (s : SV) (v : Value), r[k]? = some s → vs[k]? = some v → ORep w I tok st tm s v) →
    ∃ u, (vs.foldlM (bif mx then Builtin.max2 else Builtin.min2) v).run P w = .ok u w ∧ valRep w I d.1 d.2 u := by
  intro r
  induction r with
  | nil =>
    intro s v vs d h hv hl _
    cases vs with
    | cons => cases hl
    | nil =>
      cases s with
      | p e =>
        have : some e = some d := by simpa [maxS] using h
        cases this
        exact ⟨v, rfl, hv.p⟩
      | _ => simp [maxS] at h
  | cons s2 r ih =>
    intro s v vs d h hv hl hvs
    cases vs with
    | nil => cases hl
    | cons v2 vs =>
      have hv2 := hvs 0 s2 v2 rfl rfl
      have hform : ∃ k x k' y, s = .p ⟨.int k, x⟩ ∧ s2 = .p ⟨.int k', y⟩ := by
        unfold maxS at h
        split at h
        · rename_i heq; cases heq
        · rename_i heq; cases heq; exact ⟨_, _, _, _, rfl, rfl⟩
        · cases h
      obtain ⟨k, x, k', y, rfl, rfl⟩ := hform
      have h' : maxS mx (.p ⟨.int k, bif mx then (bif decide (y > x) then y else x) else (bif decide (y < x) then y else x)⟩) r = some d := h
      have e3 := valRep_int.1 hv.p
      have e4 := valRep_int.1 hv2.p
      obtain ⟨u, hu, hr⟩ := ih _ (.int k (bif mx then (bif decide (y > x) then y else x) else (bif decide (y < x) then y else x))) vs d h' ⟨0, by exact valRep_int.2 rfl⟩ (by simpa using hl)
        (fun q s v h1 h2 => hvs (q + 1) s v (by simpa using h1) (by simpa using h2))
      refine ⟨u, ?_, hr⟩
      rw [List.foldlM_cons, Sem.run_bind, e3, e4]
      have : ((bif mx then Builtin.max2 else Builtin.min2) (Value.int k x) (Value.int k' y)).run P w = .ok (.int k (bif mx then (bif decide (y > x) then y else x) else (bif decide (y < x) then y else x))) w := by
        cases mx
        · simp only [cond_false, Builtin.min2, Sem.run_pure]
          congr 2
          by_cases hyx : y < x <;> simp [hyx]
        · simp only [cond_true, Builtin.max2, Sem.run_pure]
          congr 2
          by_cases hyx : y > x <;> simp [hyx]
      rw [this]
      exact hu

/-- A slice's elements, in memory. -/
theorem seq_cells (h : Inv w0 I0 xs st tm w I tok) {s : SV} {v : Value} {t : Ty} {l : List t.den} (hv : ORep w I tok st tm s v) (hs : seqOf st s = some ⟨t, l⟩) :
    ∃ ad cap, v = .slice ad l.length cap ∧ (l = [] ∨ ∃ b o, ad = some ⟨b, o, none⟩ ∧ ∀ i x, l[i]? = some x → ∃ c, cellsRep w I t x c ∧ cellsAt w b (o + i * t.size) c) := by
  have fz : ∀ {t : Ty} {l : List t.den} {v : Value}, valRep w I (.sl t) l v → ∃ ad cap, v = .slice ad l.length cap ∧ l.length ≤ cap ∧ (l = [] ∨ ∃ b o, ad = some ⟨b, o, none⟩ ∧ ∀ i x, l[i]? = some x → ∃ c, cellsRep w I t x c ∧ cellsAt w b (o + i * t.size) c) := by
    intro t l v hv
    simp only [valRep, Ty.isAgg, Bool.false_eq_true, if_false, cellsRep, List.cons.injEq, and_true] at hv
    obtain ⟨ad, cap, e, hcap, hr⟩ := hv
    refine ⟨ad, cap, e, hcap, hr.imp id ?_⟩
    rintro ⟨b, o, e, _, hel⟩
    exact ⟨b, o, e, hel⟩
  have own : ∀ {t : Ty} {nl : Bool} {l : List t.den} {v : Value} {tk}, ownVal w I tk t nl l v → ∃ ad cap, v = .slice ad l.length cap ∧ l.length ≤ cap ∧ (l = [] ∨ ∃ b o, ad = some ⟨b, o, none⟩ ∧ ∀ i x, l[i]? = some x → ∃ c, cellsRep w I t x c ∧ cellsAt w b (o + i * t.size) c) := by
    rintro t nl l v tk ⟨ad, cap, e, _, hcap, hr⟩
    refine ⟨ad, cap, e, hcap, ?_⟩
    rcases hr with ⟨_, h0⟩ | ⟨b, o, _, e2, cs, hblk, _, hel⟩
    · left; exact List.eq_nil_of_length_eq_zero (by omega)
    · right
      refine ⟨b, o, e2, fun i x hx => ?_⟩
      obtain ⟨c, hc, hcv⟩ := hel i x hx
      exact ⟨c, hc, fun j v hj => by rw [hblk.cell]; exact hcv j v hj⟩
  have sub : ∀ {t : Ty} {l : List t.den} {g : Value} {lo n : Nat} {ad ad' : Option Addr} {len cap : Nat}, g = .slice ad len cap → (∃ ad cap, g = .slice ad l.length cap ∧ l.length ≤ cap ∧ (l = [] ∨ ∃ b o, ad = some ⟨b, o, none⟩ ∧ ∀ i x, l[i]? = some x → ∃ c, cellsRep w I t x c ∧ cellsAt w b (o + i * t.size) c)) →
      lo + n ≤ l.length → (lo < cap → ad' = ad.map (·.add (lo * t.size))) →
      ∃ ad2 cap2, Value.slice ad' n (cap - lo) = .slice ad2 ((l.drop lo).take n).length cap2 ∧ ((l.drop lo).take n = [] ∨ ∃ b o, ad2 = some ⟨b, o, none⟩ ∧ ∀ i x, ((l.drop lo).take n)[i]? = some x → ∃ c, cellsRep w I t x c ∧ cellsAt w b (o + i * t.size) c) := by
    rintro t l g lo n ad ad' len cap e1 ⟨ad3, cap3, e2, hcap, hr⟩ hln had
    rw [e1] at e2; simp only [Value.slice.injEq] at e2
    obtain ⟨rfl, rfl, rfl⟩ := e2
    refine ⟨ad', cap - lo, by rw [show ((l.drop lo).take n).length = n by simp; omega], ?_⟩
    by_cases hn0 : n = 0
    · left; subst hn0; simp
    · right
      rcases hr with rfl | ⟨b, o, rfl, hel⟩
      · simp at hln; omega
      · refine ⟨b, o + lo * t.size, by rw [had (by omega)]; simp [addr_add], fun i x hx => ?_⟩
        rw [List.getElem?_take] at hx
        split at hx
        · rw [List.getElem?_drop] at hx
          obtain ⟨c, hc1, hc2⟩ := hel _ _ hx
          refine ⟨c, hc1, ?_⟩
          have : o + lo * t.size + i * t.size = o + (lo + i) * t.size := by rw [Nat.add_mul]; omega
          rw [this]; exact hc2
        · cases hx
  unfold seqOf at hs
  split at hs
  · cases hs; obtain ⟨ad, cap, e, _, hr⟩ := fz hv.p; exact ⟨ad, cap, e, hr⟩
  · rename_i g
    obtain ⟨hh, rfl⟩ := hv.rf_eq
    have hg := h.slots g (home_lt st g hh)
    split at hs
    · rename_i e; cases hs; rw [e] at hg; obtain ⟨ad, cap, e, _, hr⟩ := own hg; exact ⟨ad, cap, e, hr⟩
    · rename_i e; cases hs; rw [e] at hg; obtain ⟨ad, cap, e, _, hr⟩ := fz hg; exact ⟨ad, cap, e, hr⟩
    · cases hs
  · rename_i g u lo n
    obtain ⟨i, hv⟩ := hv
    obtain ⟨hh, hb1, hb2, ad, len, cap, ad', e1, rfl, had, hadn⟩ := hv
    have hg := h.slots g (home_lt st g hh)
    split at hs
    · rename_i u' nl l' e
      cases hs
      obtain ⟨rfl, hln⟩ := hb1 _ nl l' e
      rw [e] at hg
      exact sub e1 (own hg) hln had
    · rename_i u' l' e
      cases hs
      obtain ⟨rfl, hln⟩ := hb2 _ l' e
      rw [e] at hg
      exact sub e1 (fz hg) hln had
    · cases hs
  · cases hs

theorem TyAt.und {T : TypeId} {t : Ty} (h : TyAt P T t) : ∃ u, P.underlying T = some u := by
  cases t
  case int k => exact ⟨_, h.2⟩
  case bool => exact ⟨_, h.2⟩
  case str => exact ⟨_, h.2⟩
  case flt => exact ⟨_, h.2⟩
  case unit => obtain ⟨_, _, fs, h, _⟩ := h; exact ⟨_, h⟩
  case pair => obtain ⟨_, _, fs, h, _⟩ := h; exact ⟨_, h⟩
  case arr => obtain ⟨_, e, h, _⟩ := h; exact ⟨_, h⟩
  case sl => obtain ⟨_, e, h, _⟩ := h; exact ⟨_, h⟩
  case ref => obtain ⟨_, e, h, _⟩ := h; exact ⟨_, h⟩

/-- A new row in a world that has grown. -/
theorem OpGood.rowG {st1 : St} {w2 : World} (h : Inv w0 I0 xs st1 tm w I tok) (hd : ∀ d, o.dst = some d → d < st1.sl.length) {c : List Value} {cap : Nat} {t : Ty} {l : List t.den} (g : Grew w w2) (hlt : w.heap.size < w2.heap.size) (hblk : Blk w2 w.heap.size c)
    (hr : (execOp (Act.eval ⟨tm, ds⟩) o).run P w = .ok (.value (.slice (some ⟨w.heap.size, 0, none⟩) l.length cap)) w2) (hcap : l.length ≤ cap) (hroom : cap * t.size ≤ c.length)
    (hel : ∀ i x, l[i]? = some x → ∃ c', cellsRep w I t x c' ∧ ∀ j v, c'[j]? = some v → c[i * t.size + j]? = some v) :
    OpGood P o ds w0 I0 xs (st1.putO o.dst (.own t false l)) tm w := by
  cases hod : o.dst with
  | none => exact ⟨_, _, I, tok, .inl hr, by rw [hod]; exact h.grow g⟩
  | some d =>
    have h1 := h.grow g
    have h2 := h1.putRow (hd d hod) (b := w.heap.size) (oo := 0) (cap := cap) (t := t) (l := l) (fun k hk => absurd (h.tokLt k _ hk) (Nat.lt_irrefl _)) (fun hb => absurd (h.ilt _ hb) (Nat.lt_irrefl _)) h.size hlt ⟨c, hblk, by simpa using hroom, fun i x hx => by
      obtain ⟨c', h2, h3⟩ := hel i x hx
      refine ⟨c', h2.mono (fun _ hb => hb) (fun b hb => g.block b (h.ilt b hb)), fun j v hj => ?_⟩
      rw [Nat.zero_add]; exact h3 j v hj⟩ hcap
    exact ⟨_, _, I, _, .inl hr, by rw [hod]; exact h2⟩

theorem foldl_push_nums : ∀ (l : List Int) (r : ByteArray), l.foldl (fun r n => r.push (UInt8.ofNat n.toNat)) r = ⟨r.data ++ (l.map fun n => UInt8.ofNat n.toNat).toArray⟩
  | [], r => by simp
  | b :: l, r => by
    simp only [List.foldl_cons]
    rw [foldl_push_nums l]
    simp [ByteArray.push]

theorem op_convert {S T : TypeId} {x : Operand} (hE : EnvOK P E) (h : Inv w0 I0 xs st tm w I tok) (hd : ∀ d, o.dst = some d → d < st.sl.length) (ho : o.op = .convert S T x) (hf : opF E o st = some (true, st')) :
    OpGood P o ds w0 I0 xs st' tm w := by
  have hx := ev_rep (ds := ds) h x
  simp only [opF, ho] at hf
  split at hf
  · rename_i hS hT
    obtain ⟨_, hu1⟩ := hE.ty S _ hS
    obtain ⟨_, hu2⟩ := hE.ty T _ hT
    split at hf
    · rename_i s e
      simp only [Option.some.injEq, Prod.mk.injEq, true_and] at hf; subst hf
      rw [e] at hx
      have e1 := valRep_str.1 hx.p
      refine OpGood.p (v := .string s) h hd ?_ (valRep_str.2 rfl)
      simp [execOp, ho, e1, convert, run_underlying hu1, run_underlying hu2]
    · cases hf
  · rename_i hS hT
    obtain ⟨_, e, hu1, _, hu3⟩ := hE.ty S _ hS
    obtain ⟨_, hu2⟩ := hE.ty T _ hT
    split at hf
    · rename_i l hs
      simp only [Option.some.injEq, Prod.mk.injEq, true_and] at hf; subst hf
      obtain ⟨ad, cap, e1, hr⟩ := seq_cells h hx hs
      refine OpGood.p (v := .string (bytesOf l)) h hd ?_ (valRep_str.2 rfl)
      have hrun : (convert S T (.slice ad l.length cap)).run P w = .ok (.string (bytesOf l)) w := by
        rw [run_convert_bytes_string w S T e ad l.length cap hu1 hu3 hu2]
        rcases ad with _ | a
        · rcases hr with rfl | ⟨b, o, e2, _⟩
          · simp [Conv.bytesToString, bytesOf]; rfl
          · cases e2
        · have hl : (loadCells a l.length).run P w = .ok (l.map (Value.int .u8)).toArray w := by
            rcases hr with rfl | ⟨b, oo, e2, hel⟩
            · simp [loadCells, loadCellsFrom]
            · cases e2
              have := run_loadCells_list (P := P) w ⟨b, oo, none⟩ (l.map (Value.int .u8)) (fun j v hj => by
                rw [List.getElem?_map] at hj
                obtain ⟨n, hn, rfl⟩ := Option.map_eq_some_iff.1 hj
                obtain ⟨c, hc, hcv⟩ := hel j n hn
                have hc' : c = [.int .u8 n] := hc
                subst hc'
                have := hcv 0 _ rfl
                rw [addr_add]
                simpa [Ty.size] using this)
              simpa using this
          rw [run_bytesToString w a l.length cap l hl, foldl_push_nums]
          simp [bytesOf, ByteArray.empty, ByteArray.emptyWithCapacity]
          rfl
      simp only [execOp, ho, e1]
      rw [Sem.run_bind, hrun]; rfl
    · cases hf
  · rename_i tS tT n1 n2 hS hT
    clear n1 n2
    obtain ⟨uS, hu1⟩ := (hE.ty S _ hS).und
    have hA := hE.ty T _ hT
    split at hf
    · rename_i v hcv
      simp only [Option.some.injEq, Prod.mk.injEq, true_and] at hf; subst hf
      unfold convS at hcv
      split at hcv
      · rename_i k n e
        rw [e] at hx
        have e1 := valRep_int.1 hx.p
        split at hcv
        · rename_i k'
          cases hcv
          obtain ⟨_, hu2⟩ := hA
          refine OpGood.p (v := .int k' (k'.wrap n)) h hd ?_ (valRep_int.2 rfl)
          simp [execOp, ho, e1, convert, run_underlying hu1, run_underlying hu2, Conv.intToInt]
        · cases hcv
      · rename_i s e
        rw [e] at hx
        have e1 := valRep_str.1 hx.p
        split at hcv
        · cases hcv
          obtain ⟨_, hu2⟩ := hA
          refine OpGood.p (v := .string s) h hd ?_ (valRep_str.2 rfl)
          simp [execOp, ho, e1, convert, run_underlying hu1, run_underlying hu2]
        · cases hcv
          obtain ⟨_, eT, hu2, _, hu3⟩ := hA
          obtain ⟨_, hu1⟩ := hE.ty S _ hS
          have hrun := run_bytes_of_string (P := P) w S T eT s hu1 hu2 hu3
          have hge := grownCap_ge w s.size 0 eT
          have hlen : (s.data.toList.map fun b => (b.toNat : Int)).length = s.size := by simp
          refine OpGood.rowG (P := P) (w2 := w.drew.alloc (.cells (bytesRow s (grownCap w s.size 0 eT)) eT ((bytesRow s (grownCap w s.size 0 eT)).size, (bytesRow s (grownCap w s.size 0 eT)).size + 1))) (c := (bytesRow s (grownCap w s.size 0 eT)).toList) (cap := grownCap w s.size 0 eT) h hd ((Grew.drew w).trans (Grew.alloc _ _)) (by simp) ?_ ?_ (by rw [hlen]; exact hge) ?_ ?_
          rotate_left
          · simp only [execOp, ho, e1]
            rw [Sem.run_bind, hrun, hlen]; rfl
          · have : s.data.size = s.size := rfl
            simp [bytesRow, Ty.size]; omega
          · intro i x hx
            rw [List.getElem?_map] at hx
            obtain ⟨b, hb, rfl⟩ := Option.map_eq_some_iff.1 hx
            refine ⟨[.int .u8 b.toNat], rfl, fun j v hj => ?_⟩
            cases j with
            | succ j => simp at hj
            | zero =>
              simp only [List.getElem?_cons_zero, Option.some.injEq] at hj; subst hj
              have hil := (List.getElem?_eq_some_iff.1 hb).1
              have hil' : i < s.data.size := by simpa using hil
              simp only [Ty.size, Nat.mul_one, Nat.add_zero, bytesRow, Array.toList_append, Array.toList_map]
              rw [List.getElem?_append_left (by simpa using hil'), List.getElem?_map, hb]
              rfl
          · refine ⟨_, _, _, by show (w.heap.push _)[w.heap.size]? = _; exact Array.getElem?_push_size, rfl, fun o ho' => ?_⟩
            simp only
            omega
        · cases hcv
      · cases hcv
    · cases hf
  · cases hf
end Go.Own

/- Operations, one by one: parts of slices; assignment. -/
set_option linter.unusedVariables false
namespace Go.Own
variable {P : Program} {E : Env} {w0 w w' : World} {I0 I : Nat → Prop} {xs : List Nat} {st st' : St} {tm : Array Value} {tok : Tok} {ds : List Deferred} {o : Oper}

theorem bound_run (h : Inv w0 I0 xs st tm w I tok) {n : Int} {x : Option Operand} {i : Int} (hb : boundOf n (x.map (ev st)) = some i) :
    (x = none ∧ i = n) ∨ ∃ q k, x = some q ∧ Act.eval ⟨tm, ds⟩ q = .int k i := by
  cases x with
  | none => left; simp only [Option.map_none, boundOf, Option.some.injEq] at hb; exact ⟨rfl, hb.symm⟩
  | some q =>
    right
    have hq := ev_rep (ds := ds) h q
    simp only [Option.map_some] at hb
    unfold boundOf at hb
    split at hb
    · rename_i heq; cases heq
    · rename_i k j heq
      simp only [Option.some.injEq] at heq
      rw [heq] at hq
      simp only [Option.some.injEq] at hb; subst hb
      exact ⟨q, k, rfl, valRep_int.1 hq.p⟩
    · cases hb

theorem bounds_run (h : Inv w0 I0 xs st tm w I tok) {b : Bool} {len cap : Nat} {lo hi : Option Operand} {l u : Int} (h1 : boundOf 0 (lo.map (ev st)) = some l) (h2 : boundOf len (hi.map (ev st)) = some u)
    (h3 : 0 ≤ l) (h4 : l ≤ u) (h5 : u ≤ (len : Int)) (h6 : len ≤ cap) :
    (Instr.sliceBounds b len cap (lo.map (Act.eval ⟨tm, ds⟩)) (hi.map (Act.eval ⟨tm, ds⟩)) none).run P w = .ok (l.toNat, u.toNat, cap) w := by
  have c1 : 0 ≤ u ∧ u ≤ (cap : Int) := by omega
  have e1 : (u.toNat : Int) = u := by omega
  rcases bound_run (ds := ds) h h1 with ⟨rfl, rfl⟩ | ⟨q, k, rfl, hq⟩
  · rcases bound_run (ds := ds) h h2 with ⟨rfl, rfl⟩ | ⟨q2, k2, rfl, hq2⟩
    · simp [Instr.sliceBounds]
    · simp [Instr.sliceBounds, Instr.sliceBound, hq2, asIntOf, c1]
  · rcases bound_run (ds := ds) h h2 with ⟨rfl, rfl⟩ | ⟨q2, k2, rfl, hq2⟩
    · have c2 : 0 ≤ l ∧ l ≤ (len : Int) := by omega
      simp [Instr.sliceBounds, Instr.sliceBound, hq, asIntOf, c2]
    · have c2 : 0 ≤ l ∧ l ≤ (u.toNat : Int) := by omega
      simp only [Instr.sliceBounds, Instr.sliceBound, hq, hq2, asIntOf, Option.map_some, Sem.run_bind, Sem.run_pure, Result.andThen_ok]
      rw [if_pos c1]
      simp only [Sem.run_pure, Result.andThen_ok]
      rw [if_pos c2]
      simp only [Sem.run_pure, Result.andThen_ok]

theorem addr_add_add (a : Addr) (m n : Nat) : (a.add m).add n = a.add (m + n) := by
  unfold Addr.add
  by_cases h1 : n = 0
  · subst h1; simp
  · by_cases h2 : m = 0
    · subst h2; simp [h1]
    · simp [h1, h2]; omega

theorem slice_run {T e : TypeId} {t : Ty} (hu : P.underlying T = some (.slice e)) (hA : TyAt P e t) (h : Inv w0 I0 xs st tm w I tok) {ad : Option Addr} {len cap : Nat} {lo hi : Option Operand} {l u : Int} (h1 : boundOf 0 (lo.map (ev st)) = some l) (h2 : boundOf len (hi.map (ev st)) = some u)
    (h3 : 0 ≤ l) (h4 : l ≤ u) (h5 : u ≤ (len : Int)) (h6 : len ≤ cap) :
    (Instr.sliceAt T (.slice ad len cap) (lo.map (Act.eval ⟨tm, ds⟩)) (hi.map (Act.eval ⟨tm, ds⟩)) none).run P w = .ok (.slice (if cap = l.toNat then ad else ad.map (·.add (l.toNat * t.size))) (u.toNat - l.toNat) (cap - l.toNat)) w := by
  have hb := bounds_run (P := P) (ds := ds) (b := true) h h1 h2 h3 h4 h5 h6
  simp only [Instr.sliceAt, Sem.run_bind, run_underlying hu, Result.andThen_ok, Instr.slice, hb, hA.sizeOf w, Sem.run_pure]

theorem frozen_part {t : Ty} {l : List t.den} {ad ad' : Option Addr} {len cap lo n : Nat} (hr : valRep w I (.sl t) l (.slice ad len cap)) (hln : lo + n ≤ l.length) (had : lo < cap → ad' = ad.map (·.add (lo * t.size))) :
    valRep w I (.sl t) ((l.drop lo).take n) (.slice ad' n (cap - lo)) := by
  simp only [valRep, Ty.isAgg, Bool.false_eq_true, if_false, cellsRep, List.cons.injEq, Value.slice.injEq, and_true] at hr
  obtain ⟨ad2, cap', ⟨rfl, rfl, rfl⟩, hcap, hr⟩ := hr
  simp only [valRep, Ty.isAgg, Bool.false_eq_true, if_false]
  have hlen : ((l.drop lo).take n).length = n := by simp; omega
  refine ⟨_, _, by rw [hlen], by rw [hlen]; omega, ?_⟩
  rcases hr with rfl | ⟨b, o, rfl, hI, hel⟩
  · left; simp
  · by_cases hn0 : n = 0
    · left; subst hn0; simp
    · right
      rw [had (by omega)]
      refine ⟨b, o + lo * t.size, by simp [addr_add], hI, fun i x hx => ?_⟩
      rw [List.getElem?_take] at hx
      split at hx
      · rw [List.getElem?_drop] at hx
        obtain ⟨c, hc1, hc2⟩ := hel _ _ hx
        refine ⟨c, hc1, ?_⟩
        have : o + lo * t.size + i * t.size = o + (lo + i) * t.size := by rw [Nat.add_mul]; omega
        rw [this]; exact hc2
      · cases hx

theorem putC_p {st : St} {d : Option Nat} {c : Bool} {x : DV} : st.putC d c (.p x) = some (c, st.putO d (.p x)) := by
  unfold St.putC; cases d <;> rfl

theorem putC_c {st st' : St} {d : Option Nat} {c : Bool} {v : SV} (h : st.putC d c v = some (true, st')) : c = true := by
  unfold St.putC at h
  split at h
  · rename_i d h' _
    cases hq : (h' == d) <;> rw [hq] at h <;> simp only [cond_true, cond_false, reduceCtorEq, Option.some.injEq, Prod.mk.injEq] at h
    exact h.1
  · simp only [Option.some.injEq, Prod.mk.injEq] at h; exact h.1

theorem op_slice {T : TypeId} {x : Operand} {lo hi : Option Operand} (hE : EnvOK P E) (h : Inv w0 I0 xs st tm w I tok) (hd : ∀ d, o.dst = some d → d < st.sl.length) (ho : o.op = .slice T x lo hi none) (hf : opF E o st = some (true, st')) :
    OpGood P o ds w0 I0 xs st' tm w := by
  have hx := ev_rep (ds := ds) h x
  simp only [opF, ho] at hf
  split at hf
  · rename_i c v t hs
    cases hT : E.isT T t with
    | false => rw [hT] at hf; cases hf
    | true =>
    rw [hT] at hf
    simp only [cond_true] at hf
    have hA := hE.ty T _ (isT_eq hT)
    -- a slice that holds data
    have onP : ∀ {t1 : Ty} {l1 : List t1.den} {v1 : Value} {l u : Int}, valRep w I (.sl t1) l1 v1 → Act.eval ⟨tm, ds⟩ x = v1 → boundOf 0 (lo.map (ev st)) = some l → boundOf l1.length (hi.map (ev st)) = some u →
        (decide (0 ≤ l) && decide (l ≤ u) && decide (u ≤ (l1.length : Int)), SV.p ⟨.sl t1, (l1.drop l.toNat).take (u.toNat - l.toNat)⟩, Ty.sl t1) = (c, v, t) → OpGood P o ds w0 I0 xs st' tm w := by
      intro t1 l1 v1 l u hr e hl hu he
      simp only [Prod.mk.injEq] at he
      obtain ⟨rfl, rfl, rfl⟩ := he
      rw [putC_p] at hf
      simp only [Option.some.injEq, Prod.mk.injEq, Bool.and_eq_true, decide_eq_true_eq] at hf
      obtain ⟨⟨⟨h3, h4⟩, h5⟩, rfl⟩ := hf
      obtain ⟨_, eT, hue, hAe⟩ := hA
      have hr0 := hr
      simp only [valRep, Ty.isAgg, Bool.false_eq_true, if_false, cellsRep, List.cons.injEq, and_true] at hr
      obtain ⟨ad, cap, e2, hcap, _⟩ := hr
      have hrun := slice_run (P := P) (ds := ds) hue hAe h (ad := ad) (cap := cap) hl hu h3 h4 h5 hcap
      rw [e2] at hr0
      refine OpGood.p h hd (v := .slice (if cap = l.toNat then ad else ad.map (·.add (l.toNat * t1.size))) (u.toNat - l.toNat) (cap - l.toNat)) ?_ (frozen_part hr0 (by omega) (fun hlt => by rw [if_neg (by omega)]))
      simp only [execOp, ho, e, e2, Option.map_none]
      rw [Sem.run_bind, hrun]; rfl
    unfold sliceS at hs
    split at hs
    · rename_i s ex
      rw [ex] at hx
      have e1 := valRep_str.1 hx.p
      split at hs
      · rename_i l u hl hu
        simp only [Option.some.injEq, Prod.mk.injEq] at hs
        obtain ⟨rfl, rfl, rfl⟩ := hs
        rw [putC_p] at hf
        simp only [Option.some.injEq, Prod.mk.injEq, Bool.and_eq_true, decide_eq_true_eq] at hf
        obtain ⟨⟨⟨h3, h4⟩, h5⟩, rfl⟩ := hf
        obtain ⟨_, hue⟩ := hA
        have hb := bounds_run (P := P) (ds := ds) (b := false) h hl hu h3 h4 h5 (Nat.le_refl _)
        refine OpGood.p h hd (v := .string (s.extract l.toNat u.toNat)) ?_ (valRep_str.2 rfl)
        simp only [execOp, ho, e1, Option.map_none, Instr.sliceAt, Sem.run_bind, run_underlying hue, Result.andThen_ok, Instr.slice, hb, Sem.run_pure, Option.isSome_none, Bool.false_eq_true, if_false]
      · cases hs
    · rename_i t1 s ex
      rw [ex] at hx
      split at hs
      · rename_i l u hl hu
        exact onP hx.p rfl hl hu (Option.some.inj hs)
      · cases hs
    · rename_i g ex
      rw [ex] at hx
      obtain ⟨hh, e1⟩ := hx.rf_eq
      have hg := h.slots g (home_lt st g hh)
      split at hs
      · rename_i t1 nl s hsl
        split at hs
        · rename_i l u hl hu
          simp only [Option.some.injEq, Prod.mk.injEq] at hs
          obtain ⟨rfl, rfl, rfl⟩ := hs
          rw [hsl] at hg
          obtain ⟨ad, cap, e2, _, hcap, _⟩ := hg
          obtain ⟨_, eT, hue, hAe⟩ := hA
          have hc := hf
          have hcc : (decide (0 ≤ l) && decide (l ≤ u) && decide (u ≤ (s.length : Int))) = true := by
            exact putC_c hc
          simp only [Bool.and_eq_true, decide_eq_true_eq] at hcc
          obtain ⟨⟨h3, h4⟩, h5⟩ := hcc
          have hrun := slice_run (P := P) (ds := ds) hue hAe h (ad := ad) (cap := cap) hl hu h3 h4 h5 hcap
          refine (OpGood.s (P := P) (ds := ds) (i := 0) (s := .rs g t1 l.toNat (u.toNat - l.toNat)) (v := .slice (if cap = l.toNat then ad else ad.map (·.add (l.toNat * t1.size))) (u.toNat - l.toNat) (cap - l.toNat)) h hd ?_ ?_ (by intros; simp) (by intros; simp) hf).2
          · simp only [execOp, ho, e1, e2, Option.map_none]
            rw [Sem.run_bind, hrun]; rfl
          · refine ⟨hh, fun u' nl' l' e => ?_, fun u' l' e => ?_, ad, s.length, cap, _, e2, rfl, fun hlt => by rw [if_neg (by omega)], by split <;> simp⟩
            · rw [hsl] at e; cases e; exact ⟨rfl, by omega⟩
            · rw [hsl] at e; cases e
        · cases hs
      · rename_i t1 s hsl
        rw [hsl] at hg
        split at hs
        · rename_i l u hl hu
          exact onP (show valRep w I (.sl t1) s _ from hg) e1 hl hu (Option.some.inj hs)
        · cases hs
      · cases hs
    · rename_i g t1 a n ex
      rw [ex] at hx
      split at hs
      · rename_i l u hl hu
        simp only [Option.some.injEq, Prod.mk.injEq] at hs
        obtain ⟨rfl, rfl, rfl⟩ := hs
        obtain ⟨i, hh, hb1, hb2, ad, len, cap, ad', e2, e1, had, hadn⟩ := hx
        obtain ⟨_, eT, hue, hAe⟩ := hA
        have hc := hf
        have hcc : (decide (0 ≤ l) && decide (l ≤ u) && decide (u ≤ (n : Int))) = true := by
          exact putC_c hc
        simp only [Bool.and_eq_true, decide_eq_true_eq] at hcc
        obtain ⟨⟨h3, h4⟩, h5⟩ := hcc
        -- the home's length, and its room
        have hlen : a + n ≤ len ∧ len ≤ cap := by
          have hg := h.slots g (home_lt st g hh)
          cases hsl : st.slot g with
          | own u2 nl l2 =>
            rw [hsl] at hg
            obtain ⟨ad3, cap3, e3, _, hcap, _⟩ := hg
            rw [e2] at e3; simp only [Value.slice.injEq] at e3
            have := (hb1 _ _ _ hsl).2
            omega
          | p d =>
            rw [hsl] at hh
            obtain ⟨td, y⟩ := d
            cases td <;> simp only [SV.isHome, Bool.false_eq_true] at hh
            rename_i t2
            rw [hsl] at hg
            have hg' : valRep w I (.sl t2) y (tm.getD g undef) := hg
            simp only [valRep, Ty.isAgg, Bool.false_eq_true, if_false, cellsRep, List.cons.injEq, and_true] at hg'
            obtain ⟨ad3, cap3, e3, hcap, _⟩ := hg'
            rw [e2] at e3; simp only [Value.slice.injEq] at e3
            have := (hb2 _ _ hsl).2
            have : a + n ≤ List.length y := this
            omega
          | _ => rw [hsl] at hh; cases hh
        have hrun := slice_run (P := P) (ds := ds) hue hAe h (ad := ad') (len := n) (cap := cap - a) hl hu h3 h4 h5 (by omega)
        refine (OpGood.s (P := P) (ds := ds) (i := 0) (s := .rs g t1 (a + l.toNat) (u.toNat - l.toNat)) (v := .slice (if cap - a = l.toNat then ad' else ad'.map (·.add (l.toNat * t1.size))) (u.toNat - l.toNat) (cap - a - l.toNat)) h hd ?_ ?_ (by intros; simp) (by intros; simp) hf).2
        · simp only [execOp, ho, e1, Option.map_none]
          rw [Sem.run_bind, hrun]; rfl
        · refine ⟨hh, fun u' nl' l' e => ?_, fun u' l' e => ?_, ad, len, cap, _, e2, by rw [Nat.sub_sub], fun hlt => ?_, by split <;> simp [hadn]⟩
          · obtain ⟨q1, q2⟩ := hb1 _ _ _ e; exact ⟨q1, by omega⟩
          · obtain ⟨q1, q2⟩ := hb2 _ _ e
            have q3 : a + n ≤ List.length l' := q2
            exact ⟨q1, by show a + l.toNat + (u.toNat - l.toNat) ≤ List.length l'; omega⟩
          · rw [if_neg (by omega), had (by omega), Option.map_map]
            congr 1
            funext q
            simp only [Function.comp_apply, addr_add_add, Nat.add_mul]
      · cases hs
    · cases hs
  · cases hf
end Go.Own

/- Operations, one by one: assignment. -/
set_option linter.unusedVariables false
namespace Go.Own
variable {P : Program} {E : Env} {w0 w w' : World} {I0 I : Nat → Prop} {xs : List Nat} {st st' : St} {tm : Array Value} {tok : Tok} {ds : List Deferred} {o : Oper}

def Tok.pass (tok : Tok) (g d : Nat) : Tok
  | .sl i => if i = d then tok (.sl g) else if i = g then none else tok (.sl i)
  | .tc i j => if i = d then none else tok (.tc i j)
  | .box s => tok (.box s)

def St.passed (st : St) (g d : Nat) (v : SV) : St := { st with sl := (((st.sl.map (SV.off d)).map (SV.ren g d)).set g (.rf d)).set d v }

theorem passed_slot (st : St) {g d : Nat} (v : SV) (hg : g < st.sl.length) (hd : d < st.sl.length) (i : Nat) :
    (st.passed g d v).slot i = if i = d then v else if i = g then .rf d else SV.ren g d (SV.off d (st.slot i)) := by
  have h1 := slot_set { st with sl := (((st.sl.map (SV.off d)).map (SV.ren g d)).set g (.rf d)) } d i v (by simpa using hd)
  have h2 := slot_set { st with sl := ((st.sl.map (SV.off d)).map (SV.ren g d)) } g i (.rf d) (by simpa using hg)
  have h3 := slot_map { st with sl := st.sl.map (SV.off d) } (SV.ren g d) rfl i
  have h4 := slot_map st (SV.off d) rfl i
  unfold St.passed
  rw [show ({ st with sl := (((st.sl.map (SV.off d)).map (SV.ren g d)).set g (.rf d)).set d v } : St).slot i = _ from h1]
  split
  · rfl
  · rw [show ({ st with sl := (((st.sl.map (SV.off d)).map (SV.ren g d)).set g (.rf d)) } : St).slot i = _ from h2]
    split
    · rfl
    · rw [show ({ st with sl := ((st.sl.map (SV.off d)).map (SV.ren g d)) } : St).slot i = _ from h3]
      rw [show ({ st with sl := st.sl.map (SV.off d) } : St).slot i = _ from h4]

/-- An own slice passes from slot g to slot d. -/
theorem Inv.passOwn (h : Inv w0 I0 xs st tm w I tok) {g d : Nat} {t : Ty} {nl : Bool} {l : List t.den} (hs : st.slot g = .own t nl l) (hne : g ≠ d) (hd : d < st.sl.length) :
    Inv w0 I0 xs (st.passed g d (.own t nl l)) (tm.setIfInBounds d (tm.getD g undef)) w I (tok.pass g d) := by
  have hgl := home_lt st g (by rw [hs]; rfl)
  have hd' : d < tm.size := h.len ▸ hd
  have hlen : (st.passed g d (.own t nl l)).sl.length = st.sl.length := by simp [St.passed]
  have hslot := passed_slot st (.own t nl l) hgl hd
  have htm : ∀ i, i ≠ d → (tm.setIfInBounds d (tm.getD g undef)).getD i undef = tm.getD i undef := fun i hi => by rw [getD_set _ _ _ _ hd']; simp [hi]
  have htmd : (tm.setIfInBounds d (tm.getD g undef)).getD d undef = tm.getD g undef := by rw [getD_set _ _ _ _ hd']; simp
  have hbox : ∀ s, (st.passed g d (.own t nl l)).box s = st.box s := fun s => rfl
  have keep : ∀ a, a ≠ d → a ≠ g → (st.slot a).isHome = true → (st.passed g d (.own t nl l)).slot a = st.slot a := by
    intro a ha hag hh
    rw [hslot]; simp only [ha, hag, if_false]
    cases hq : st.slot a <;> rw [hq] at hh <;> first | rfl | (simp [SV.isHome] at hh)
  have hcap : ∀ c x, capRep w I tok st c x → capRep w I (tok.pass g d) (st.passed g d (.own t nl l)) c x := by
    intro c x hc
    cases c <;> simp only [capRep] at hc ⊢ <;> first | exact hc | simpa [Tok.pass, hbox] using hc
  constructor
  case len => rw [hlen]; simpa using h.len
  case small => rw [hlen]; exact h.small
  case slots =>
    intro i hi
    rw [hlen] at hi
    have hr := h.slots i hi
    by_cases hid : i = d
    · subst hid
      rw [hslot, if_pos rfl, htmd]
      have hg := h.slots g hgl
      rw [hs] at hg
      show ownVal w I (Tok.pass tok g i (.sl i)) t nl l _
      have : Tok.pass tok g i (.sl i) = tok (.sl g) := by simp [Tok.pass]
      rw [this]; exact hg
    · rw [htm i hid]
      by_cases hig : i = g
      · subst hig
        rw [hslot, if_neg hid, if_pos rfl]
        refine ⟨?_, htmd.symm⟩
        rw [hslot, if_pos rfl]; rfl
      · rw [hslot, if_neg hid, if_neg hig]
        cases hq : st.slot i with
        | p e => rw [hq] at hr; exact hr
        | own t' nl' l' =>
          rw [hq] at hr
          show ownVal w I (Tok.pass tok g d (.sl i)) t' nl' l' _
          have : Tok.pass tok g d (.sl i) = tok (.sl i) := by simp [Tok.pass, hid, hig]
          rw [this]; exact hr
        | rf a =>
          rw [hq] at hr
          obtain ⟨hh, hv⟩ := hr
          simp only [SV.off]
          split
          · trivial
          · rename_i had
            simp only [SV.ren]
            split
            · rename_i hag; subst hag
              exact ⟨by rw [hslot, if_pos rfl]; rfl, by rw [htmd]; exact hv⟩
            · rename_i hag
              exact ⟨by rw [keep a had hag hh]; exact hh, by rw [htm a had]; exact hv⟩
        | rs a ta lo n =>
          rw [hq] at hr
          obtain ⟨hh, h1, h2, h3⟩ := hr
          simp only [SV.off]
          split
          · trivial
          · rename_i had
            simp only [SV.ren]
            split
            · rename_i hag; subst hag
              refine ⟨by rw [hslot, if_pos rfl]; rfl, ?_, ?_, by rw [htmd]; exact h3⟩
              · intro u nu lu e
                rw [hslot, if_pos rfl] at e; cases e
                exact h1 _ _ _ hs
              · intro u lu e
                rw [hslot, if_pos rfl] at e; cases e
            · rename_i hag
              refine ⟨by rw [keep a had hag hh]; exact hh, by rw [keep a had hag hh]; exact h1, by rw [keep a had hag hh]; exact h2, by rw [htm a had]; exact h3⟩
        | pe a t0 k ta pa =>
          rw [hq] at hr
          obtain ⟨⟨nla, la, hsa, hka⟩, b, oo, len, cap, off, h2, h3, h4, h5, h6⟩ := hr
          simp only [SV.off]
          split
          · trivial
          · rename_i had
            simp only [SV.ren]
            split
            · rename_i hag; subst hag
              rw [hs] at hsa; cases hsa
              refine ⟨⟨nl, l, by rw [hslot, if_pos rfl], hka⟩, b, oo, len, cap, off, by simpa [Tok.pass] using h2, by rw [htmd]; exact h3, h4, h5, h6⟩
            · rename_i hag
              have hh : (st.slot a).isHome = true := by rw [hsa]; rfl
              refine ⟨⟨nla, la, by rw [keep a had hag hh]; exact hsa, hka⟩, b, oo, len, cap, off, by simpa [Tok.pass, had, hag] using h2, by rw [htm a had]; exact h3, h4, h5, h6⟩
        | pb s ta pa => rw [hq] at hr; exact hcap (.pb s ta pa) _ hr
        | nil => rw [hq] at hr; exact hr
        | nilp => rw [hq] at hr; exact hr
        | clo f caps => rw [hq] at hr; obtain ⟨vs, e, hl, hc⟩ := hr; exact ⟨vs, e, hl, fun j c x h1 h2 => hcap c x (hc j c x h1 h2)⟩
        | tup ls =>
          rw [hq] at hr
          obtain ⟨vs, e, hl, hc⟩ := hr
          refine ⟨vs, e, hl, fun j c x h1 h2 => ?_⟩
          have := hc j c x h1 h2
          cases c <;> simp only [compRep] at this ⊢ <;> first | exact this | skip
          have e2 : Tok.pass tok g d (.tc i j) = tok (.tc i j) := by simp [Tok.pass, hid]
          rw [e2]; exact this
        | dead => trivial
        | und => first | (rw [hq] at hr; exact hr) | exact hr
  case boxes =>
    intro x e hx
    exact h.boxes x e hx
  case inj =>
    have aux : ∀ k b, tok.pass g d k = some b → ∃ k0, tok k0 = some b ∧ (k0 = .sl g ∧ k = .sl d ∨ k0 = k ∧ k ≠ .sl d ∧ k0 ≠ .sl g) := by
      intro k b hk
      cases k with
      | box s => exact ⟨.box s, hk, .inr ⟨rfl, by simp, by simp⟩⟩
      | tc i j =>
        simp only [Tok.pass] at hk
        split at hk
        · cases hk
        · exact ⟨_, hk, .inr ⟨rfl, by simp, by simp⟩⟩
      | sl i =>
        simp only [Tok.pass] at hk
        split at hk
        · rename_i e; subst e; exact ⟨_, hk, .inl ⟨rfl, rfl⟩⟩
        · rename_i e
          split at hk
          · cases hk
          · rename_i e2; exact ⟨_, hk, .inr ⟨rfl, by simpa using e, by simpa using e2⟩⟩
    intro k k' b h1 h2
    obtain ⟨k0, h3, h4⟩ := aux k b h1
    obtain ⟨k1, h5, h6⟩ := aux k' b h2
    have := h.inj _ _ b h3 h5
    subst this
    rcases h4 with ⟨e1, e2⟩ | ⟨e1, e2, e3⟩ <;> rcases h6 with ⟨e4, e5⟩ | ⟨e4, e5, e6⟩
    · rw [e2, e5]
    · exact absurd e1 e6
    · exact absurd e4 e3
    · rw [← e1, ← e4]
  case tokLt =>
    intro k b hk
    cases k with
    | box s => exact h.tokLt _ b hk
    | tc i j => simp only [Tok.pass] at hk; split at hk <;> first | cases hk | exact h.tokLt _ b hk
    | sl i =>
      simp only [Tok.pass] at hk
      split at hk
      · exact h.tokLt _ b hk
      · split at hk <;> first | cases hk | exact h.tokLt _ b hk
  case tokI =>
    intro k b hk
    cases k with
    | box s => exact h.tokI _ b hk
    | tc i j => simp only [Tok.pass] at hk; split at hk <;> first | cases hk | exact h.tokI _ b hk
    | sl i =>
      simp only [Tok.pass] at hk
      split at hk
      · exact h.tokI _ b hk
      · split at hk <;> first | cases hk | exact h.tokI _ b hk
  case ilt => exact h.ilt
  case fresh =>
    intro k b hk
    cases k with
    | box s => exact h.fresh _ b hk
    | tc i j => simp only [Tok.pass] at hk; split at hk <;> first | cases hk | exact h.fresh _ b hk
    | sl i =>
      simp only [Tok.pass] at hk
      split at hk
      · exact h.fresh _ b hk
      · split at hk <;> first | cases hk | exact h.fresh _ b hk
  case ext => intro j x hx; exact h.ext j x hx
  case keep => exact h.keep
  case size => exact h.size
  case os => exact h.os
  case output => exact h.output
  case tape => exact h.tape
  case sub => exact h.sub
  case new => exact h.new

/-- A slot's own slice is nobody's. -/
theorem Inv.takeOut (h : Inv w0 I0 xs st tm w I tok) {g : Nat} {t : Ty} {nl : Bool} {l : List t.den} (hs : st.slot g = .own t nl l) :
    Inv w0 I0 xs { st with sl := (st.sl.map (SV.off g)).set g .dead } tm w I (tok.drop g) := by
  have h1 := h.put_dead (v := tm.getD g undef) (home_lt st g (by rw [hs]; rfl))
  rw [setD_self] at h1
  have : st.put g .dead = { st with sl := (st.sl.map (SV.off g)).set g .dead } := by unfold St.put; rw [hs]; rfl
  rw [← this]; exact h1

theorem own_new (h : Inv w0 I0 xs st tm w I tok) {g b : Nat} (hb : tok (.sl g) = some b) : w0.heap.size ≤ b := by
  rcases h.fresh _ b hb with h2 | h2
  · exact h2
  · obtain ⟨q, hq⟩ := List.getElem?_of_mem h2
    have := h.inj _ _ b hb (h.ext q b hq); cases this

theorem drop_free (h : Inv w0 I0 xs st tm w I tok) {g b : Nat} (hb : tok (.sl g) = some b) : ∀ k, tok.drop g k ≠ some b := by
  intro k hk
  by_cases hat : k.at g
  · rw [drop_at tok g k hat] at hk; cases hk
  · rw [drop_other tok g k hat] at hk
    have := h.inj _ _ b hk hb
    subst this
    exact hat rfl

theorem OwnRep.part {b oo cap lo n : Nat} {t : Ty} {l : List t.den} (h : OwnRep w I b oo cap t l) (hln : lo + n ≤ l.length) (hcap : lo < cap) : OwnRep w I b (oo + lo * t.size) (cap - lo) t ((l.drop lo).take n) := by
  obtain ⟨cs, hblk, hroom, hel⟩ := h
  refine ⟨cs, hblk, ?_, fun i x hx => ?_⟩
  · have : lo * t.size + (cap - lo) * t.size = cap * t.size := by rw [← Nat.add_mul]; congr 1; omega
    omega
  · rw [List.getElem?_take] at hx
    split at hx
    · rw [List.getElem?_drop] at hx
      obtain ⟨c, hc1, hc2⟩ := hel _ _ hx
      refine ⟨c, hc1, fun j v hj => ?_⟩
      have := hc2 j v hj
      have e : oo + lo * t.size + i * t.size = oo + (lo + i) * t.size := by rw [Nat.add_mul]; omega
      rw [e]; exact this
    · cases hx

/-- A row, or no row: slot d's. -/
theorem Inv.putOwn (h : Inv w0 I0 xs st tm w I tok) {d : Nat} (hd : d < st.sl.length) {t : Ty} {nl : Bool} {l : List t.den} {ad : Option Addr} {cap : Nat} (hnl : nl = true ↔ ad = none) (hcap : l.length ≤ cap)
    (hr : cap = 0 ∨ ∃ b o, ad = some ⟨b, o, none⟩ ∧ OwnRep w I b o cap t l ∧ (∀ k, tok k ≠ some b) ∧ ¬ I b ∧ w0.heap.size ≤ b ∧ b < w.heap.size) :
    ∃ tok', Inv w0 I0 xs (st.put d (.own t nl l)) (tm.setIfInBounds d (.slice ad l.length cap)) w I tok' := by
  rcases hr with h0 | ⟨b, oo, rfl, hrow, h1, h2, h3, h4⟩
  · refine ⟨tok.drop d, h.put hd (drop_other tok d) (fun k b hk hb => by rw [drop_at tok d k hk] at hb; cases hb) ?_⟩
    show ownVal w I (tok.drop d (.sl d)) t nl l _
    exact ⟨_, _, rfl, hnl, hcap, .inl ⟨by simp [Tok.drop], h0⟩⟩
  · have e : nl = false := by cases nl with | false => rfl | true => exact absurd (hnl.1 rfl) (by simp)
    subst e
    exact ⟨_, h.putRow hd h1 h2 h3 h4 hrow hcap⟩

/-- What slot g's own slice, or a part of it, is. -/
theorem own_part (h : Inv w0 I0 xs st tm w I tok) {g : Nat} {t : Ty} {nl : Bool} {l : List t.den} (hs : st.slot g = .own t nl l) {lo n : Nat} {v : Value} {u : Ty} (hv : ORep w I tok st tm (.rs g u lo n) v) :
    u = t ∧ lo + n ≤ l.length ∧ ∃ ad' cap', v = .slice ad' n cap' ∧ n ≤ cap' ∧ ((nl && decide (n = 0)) = true ↔ ad' = none) ∧
      (cap' = 0 ∨ ∃ b o, tok (.sl g) = some b ∧ ad' = some ⟨b, o, none⟩ ∧ OwnRep w I b o cap' t ((l.drop lo).take n)) := by
  obtain ⟨i, hh, hb1, _, ad, len, cap, ad', e1, rfl, had, hadn⟩ := hv
  obtain ⟨rfl, hln⟩ := hb1 _ _ _ hs
  have hg := h.slots g (home_lt st g hh)
  rw [hs] at hg
  obtain ⟨ad2, cap2, e2, hnl, hcap, hr⟩ := hg
  rw [e1] at e2; simp only [Value.slice.injEq] at e2
  obtain ⟨rfl, rfl, rfl⟩ := e2
  refine ⟨rfl, hln, ad', cap - lo, rfl, by omega, ?_, ?_⟩
  · rw [hadn, ← hnl]
    cases nl with
    | false => simp
    | true =>
      have := hnl.1 rfl
      subst this
      rcases hr with ⟨_, h0⟩ | ⟨b, o, _, e, _⟩
      · simp; omega
      · cases e
  · by_cases hlc : lo < cap
    · right
      rcases hr with ⟨_, h0⟩ | ⟨b, o, h1, rfl, hrow⟩
      · omega
      · exact ⟨b, o + lo * t.size, h1, by rw [had hlc]; simp [addr_add], hrow.part hln hlc⟩
    · left; omega

theorem putC_c2 {st st' : St} {d : Option Nat} {c c' : Bool} {v : SV} (h : st.putC d c v = some (c', st')) : c' = c := by
  unfold St.putC at h
  split at h
  · rename_i d h' _
    cases hq : (h' == d) <;> rw [hq] at h <;> simp only [cond_true, cond_false, reduceCtorEq, Option.some.injEq, Prod.mk.injEq] at h
    exact h.1.symm
  · simp only [Option.some.injEq, Prod.mk.injEq] at h; exact h.1.symm

theorem op_assign {x : Operand} (hE : EnvOK P E) (h : Inv w0 I0 xs st tm w I tok) (hd : ∀ d, o.dst = some d → d < st.sl.length) (ho : o.op = .assign x) (hf : opF E o st = some (true, st')) :
    OpGood P o ds w0 I0 xs st' tm w := by
  have hx := ev_rep (ds := ds) h x
  have hr : (execOp (Act.eval ⟨tm, ds⟩) o).run P w = .ok (.value (Act.eval ⟨tm, ds⟩ x)) w := by simp [execOp, ho]
  simp only [opF, ho] at hf
  cases hod : o.dst with
  | none => rw [hod] at hf; cases hf
  | some d =>
    rw [hod] at hf
    simp only at hf
    have hdl := hd d hod
    split at hf
    · rename_i st2 has
      simp only [Option.some.injEq, Prod.mk.injEq, true_and] at hf; subst hf
      have good : ∀ {st2 : St} {I' : Nat → Prop} {tok' : Tok}, Inv w0 I0 xs st2 (tm.setIfInBounds d (Act.eval ⟨tm, ds⟩ x)) w I' tok' → OpGood P o ds w0 I0 xs st2 tm w := by
        intro st2 I' tok' hi
        exact ⟨_, w, I', tok', .inl hr, by rw [hod]; exact hi⟩
      generalize ev st x = s at hx has
      have other : (∀ l, s ≠ .tup l) → s ≠ .nil → s ≠ .nilp → (st.putC (some d) true s).map (·.2) = some st2 → OpGood P o ds w0 I0 xs st2 tm w := by
        intro hnt hn1 hn2 hp
        obtain ⟨⟨c, s2⟩, hc, rfl⟩ := Option.map_eq_some_iff.1 hp
        have hno : ∀ t nl l, s ≠ .own t nl l := by rintro t nl l rfl; exact absurd hx (by simp [ORep])
        have hx' : ∃ i, SRep w I tok st tm i s (Act.eval ⟨tm, ds⟩ x) := by
          cases s <;> first | exact hx | skip
          · exact absurd rfl (hno _ _ _)
          · exact absurd rfl hn1
          · exact absurd rfl hn2
        obtain ⟨i, hx'⟩ := hx'
        have hct : c = true := putC_c2 hc
        subst hct
        exact (OpGood.s (P := P) h hd hr hx' hno hnt (by rw [hod]; exact hc)).2
      cases s with
      | rf g =>
        simp only [assignS] at has
        split at has
        · cases has
        · rename_i hgd
          obtain ⟨hh, e⟩ := hx.rf_eq
          split at has
          · rename_i t nl l hs
            cases has
            exact good (by rw [e]; exact h.passOwn hs hgd hdl)
          · rename_i y hs
            cases has
            have hg := h.slots g (home_lt st g hh)
            rw [hs] at hg
            exact good (by rw [e]; exact h.put_p hdl hg)
          · cases has
      | rs g u lo n =>
        simp only [assignS] at has
        split at has
        · rename_i t nl l hs
          obtain ⟨rfl, hln, ad', cap', e, hcap, hnl, hrow⟩ := own_part h hs hx
          split at has
          · rename_i hgd
            subst hgd
            cases has
            have hlen : ((l.drop lo).take n).length = n := by simp; omega
            have h1 := h.takeOut hs
            obtain ⟨tok', h2⟩ := h1.putOwn (d := g) (by simpa using hdl) (t := u) (l := (l.drop lo).take n) (cap := cap') hnl (by omega) (by
              rcases hrow with h0 | ⟨b, oo, h3, h4, h5⟩
              · exact .inl h0
              · exact .inr ⟨b, oo, h4, h5, drop_free h h3, h.tokI _ b h3, own_new h h3, h.tokLt _ b h3⟩)
            rw [hlen] at h2
            refine good (I' := I) (tok' := tok') ?_
            rw [e]
            have : St.put ({ st with sl := (st.sl.map (SV.off g)).set g .dead } : St) g (.own u (nl && decide (n = 0)) ((l.drop lo).take n)) = { st with sl := (st.sl.map (SV.off g)).set g (.own u (nl && decide (n = 0)) ((l.drop lo).take n)) } := by
              have hq : (({ st with sl := (st.sl.map (SV.off g)).set g .dead } : St).slot g).isHome = false := by
                have := slot_set { st with sl := st.sl.map (SV.off g) } g g .dead (by simpa using hdl)
                simp only [if_true] at this
                rw [show ({ st with sl := (st.sl.map (SV.off g)).set g .dead } : St).slot g = _ from this]; rfl
              rw [put_notHome _ _ _ hq]
              simp
            rw [← this]; exact h2
          · rename_i hgd
            cases has
            obtain ⟨I', tok', h1, h2, h3, h4⟩ := datas_rep (P := P) hE [.rs g u lo n] h
            have hdat : dataOf E st 0 (.rs g u lo n) = some ⟨.sl u, (l.drop lo).take n⟩ := by simp [dataOf, seqOf, hs]
            have := h4 _ (List.mem_singleton.2 rfl) 0 _ _ hx hdat
            exact good (h1.put_p (d := d) (by rw [freezeAll_len]; exact hdl) this)
        · rename_i t l hs
          cases has
          have hdat : dataOf E st 0 (.rs g u lo n) = some ⟨.sl t, (l.drop lo).take n⟩ := by simp [dataOf, seqOf, hs]
          obtain ⟨I', tok', h1, h2, h3, h4⟩ := datas_rep (P := P) hE [.rs g u lo n] h
          have := h4 _ (List.mem_singleton.2 rfl) 0 _ _ hx hdat
          have hfr : st.freezeAll [.rs g u lo n] = st := by
            show st.freeze g = st
            unfold St.freeze; rw [hs]
          rw [hfr] at h1
          exact good (h1.put_p hdl this)
        · cases has
      | nil =>
        simp only [assignS] at has
        split at has
        · cases has
          have e : Act.eval ⟨tm, ds⟩ x = .slice none 0 0 := hx
          rename_i t hT
          have h1 := h.putNil hdl (t := t)
          exact good (by rw [e]; exact h1)
        · cases has
      | nilp =>
        simp only [assignS] at has
        split at has
        · cases has
          have e : Act.eval ⟨tm, ds⟩ x = .pointer none := hx
          exact good (h.put_p hdl (by rw [e]; simp [valRep, Ty.isAgg, cellsRep]))
        · cases has
      | tup l => cases has
      | own t nl l => exact absurd hx (by simp [ORep])
      | _ => exact other (by intros; simp) (by simp) (by simp) has
    · cases hf
end Go.Own

/- Operations, one by one: append. -/
set_option linter.unusedVariables false
namespace Go.Own
variable {P : Program} {E : Env} {w0 w w' : World} {I0 I : Nat → Prop} {xs : List Nat} {st st' : St} {tm : Array Value} {tok : Tok} {ds : List Deferred} {o : Oper}

def sliceOrString (u : TypeDesc) : Prop := (∃ e, u = .slice e) ∨ u = .string

/-- append, with room: what is appended is written behind the slice. -/
theorem append_room (w : World) {T T2 ty e : TypeId} {u2 : TypeDesc} {i : TypeInfo} (ht : P.underlying T = some (.slice e)) (hi : P.info? e = some i) (h2 : P.underlying T2 = some u2) (hu : sliceOrString u2)
    {ad : Option Addr} {len cap m : Nat} {x : Value} {news : List Value} (hm : (Builtin.lenOf x).run P w = .ok m w) (hn : (Builtin.firstCells i.size m x).run P w = .ok news.toArray w)
    (hroom : len + m ≤ cap) {w2 : World} (hst : ∀ a, ad = some a → (storeCells (a.add (len * i.size)) news 0).run P w = .ok () w2) (hno : ad = none → w2 = w) :
    (Builtin.append_ #[T, T2] ty #[.slice ad len cap, x]).run P w = .ok (.slice ad (len + m) cap) w2 := by
  cases ad with
  | none =>
    have := hno rfl; subst this
    rcases hu with ⟨e2, rfl⟩ | rfl <;> simp [Builtin.append_, run_underlying ht, run_underlying h2, sizeOf, typeInfo, hi, hm, hroom, hn]
  | some a =>
    have hs := hst a rfl
    rcases hu with ⟨e2, rfl⟩ | rfl <;> simp [Builtin.append_, run_underlying ht, run_underlying h2, sizeOf, typeInfo, hi, hm, hroom, hn, hs]

/-- append, without room: a new row. -/
theorem append_grow (w : World) {T T2 ty e : TypeId} {u2 : TypeDesc} {i : TypeInfo} {z : Value} (ht : P.underlying T = some (.slice e)) (hi : P.info? e = some i) (hz : i.zero = some z) (h2 : P.underlying T2 = some u2) (hu : sliceOrString u2)
    {ad : Option Addr} {len cap m : Nat} {x : Value} {olds news : List Value} (hm : (Builtin.lenOf x).run P w = .ok m w) (hn : (Builtin.firstCells i.size m x).run P w.drew = .ok news.toArray w.drew)
    (ho : (Builtin.firstCells i.size len (.slice ad len cap)).run P w.drew = .ok olds.toArray w.drew)
    (hg : cap < len + m) (h63 : ((len + m : Nat) : Int) ≤ 9223372036854775807) (hfit : Builtin.nextslicecap (len + m) cap * i.bytes ≤ 281474976710656) :
    (Builtin.append_ #[T, T2] ty #[.slice ad len cap, x]).run P w =
      .ok (.slice (some ⟨w.heap.size, 0, none⟩) (len + m) (grownCap w (len + m) cap e))
        (w.drew.alloc (.cells (olds.toArray ++ news.toArray ++ Builtin.zeroCells z.cells (grownCap w (len + m) cap e - (len + m))) e)) := by
  have hn' : ¬ (len + m ≤ cap) := by omega
  have h63' : ¬ (9223372036854775807 < ((len : Int) + (m : Int))) := by omega
  have h48' : ¬ (281474976710656 < Builtin.nextslicecap (len + m) cap * i.bytes) := by omega
  rcases hu with ⟨e2, rfl⟩ | rfl
  · simp [Builtin.append_, run_underlying ht, run_underlying h2, sizeOf, typeInfo, zeroValue, hi, hz, hm, hn', h63', h48', Question.forced, hn, ho, newRow, grownCap]
    congr 2
    apply Array.ext'
    simp [List.append_assoc]
  · simp [Builtin.append_, run_underlying ht, run_underlying h2, sizeOf, typeInfo, zeroValue, hi, hz, hm, hn', h63', h48', Question.forced, hn, ho, newRow, grownCap]
    congr 2
    apply Array.ext'
    simp [List.append_assoc]

/-- A free block is written. -/
theorem Inv.writeFree (h : Inv w0 I0 xs st tm w I tok) {b : Nat} (hb : ∀ k, tok k ≠ some b) (hI : ¬ I b) (hnew : w0.heap.size ≤ b) (hw : Wrote b w w') : Inv w0 I0 xs st tm w' I tok where
  len := h.len
  small := h.small
  slots := fun i hi => (h.slots i hi).world (fun _ hb => hb) (fun k hk => hw.block k (by rintro rfl; exact hI hk)) (fun k k' hk => hw.block k' (by rintro rfl; exact hb k hk))
  boxes := fun s d hs => by
    obtain ⟨k, hk, hr⟩ := h.boxes s d hs
    exact ⟨k, hk, hr.world (fun _ hb => hb) (fun q hq => hw.block q (by rintro rfl; exact hI hq)) (hw.block k (by rintro rfl; exact hb _ hk))⟩
  inj := h.inj
  tokLt := fun k q hq => by rw [hw.size]; exact h.tokLt k q hq
  tokI := h.tokI
  ilt := fun q hq => by rw [hw.size]; exact h.ilt q hq
  fresh := h.fresh
  ext := h.ext
  keep := fun q hq hx => (hw.block q (by rintro rfl; omega)).trans (h.keep q hq hx)
  size := by rw [hw.size]; exact h.size
  os := hw.os.trans h.os
  output := hw.output.trans h.output
  tape := hw.tape.trans h.tape
  sub := h.sub
  new := h.new

/-- Rows of elements, as cells. -/
theorem row_cells {t : Ty} : ∀ {l : List t.den} {f : Nat → Option Value}, (∀ i x, l[i]? = some x → ∃ c, cellsRep w I t x c ∧ ∀ j v, c[j]? = some v → f (i * t.size + j) = some v) →
    ∃ cs : List Value, cs.length = l.length * t.size ∧ (∀ j v, cs[j]? = some v → f j = some v) ∧ (∀ v ∈ cs, v.oneCell' = true) ∧
      ∀ i x, l[i]? = some x → ∃ c, cellsRep w I t x c ∧ ∀ j v, c[j]? = some v → cs[i * t.size + j]? = some v := by
  intro l
  induction l with
  | nil => intro f _; exact ⟨[], by simp, by simp, by simp, by simp⟩
  | cons y l ih =>
    intro f h
    obtain ⟨c0, hc0, hv0⟩ := h 0 y rfl
    have hl0 := hc0.length
    obtain ⟨cs, h1, h2, h3, h4⟩ := ih (f := fun j => f (t.size + j)) (fun i x hx => by
      obtain ⟨c, hc, hv⟩ := h (i + 1) x (by simpa using hx)
      refine ⟨c, hc, fun j v hj => ?_⟩
      have := hv j v hj
      rw [Nat.add_mul, Nat.one_mul] at this
      rw [← this]; congr 1; omega)
    refine ⟨c0 ++ cs, by simp [h1, hl0, Nat.add_mul]; omega, fun j v hj => ?_, fun v hv => ?_, fun i x hx => ?_⟩
    · rcases Nat.lt_or_ge j c0.length with hlt | hge
      · rw [List.getElem?_append_left hlt] at hj
        have := hv0 j v hj
        simpa using this
      · rw [List.getElem?_append_right hge] at hj
        have := h2 _ v hj
        rw [← this]; congr 1; omega
    · rcases List.mem_append.1 hv with h5 | h5
      · exact hc0.one v h5
      · exact h3 v h5
    · cases i with
      | zero =>
        simp at hx; subst hx
        refine ⟨c0, hc0, fun j v hj => ?_⟩
        have := (List.getElem?_eq_some_iff.1 hj).1
        rw [List.getElem?_append_left (by omega)]
        simpa using hj
      | succ i =>
        obtain ⟨c, hc, hv⟩ := h4 i x (by simpa using hx)
        refine ⟨c, hc, fun j v hj => ?_⟩
        rw [Nat.add_mul, Nat.one_mul, List.getElem?_append_right (by omega), ← hv j v hj]
        congr 1; omega

/-- What is appended: its length, and its cells. -/
structure More (P : Program) (w : World) (I : Nat → Prop) (t : Ty) (ys : List t.den) (x : Value) (news : List Value) : Prop where
  len : (Builtin.lenOf x).run P w = .ok ys.length w
  cells : ∀ w' : World, w'.heap = w.heap → (Builtin.firstCells t.size ys.length x).run P w' = .ok news.toArray w'
  size : news.length = ys.length * t.size
  one : ∀ v ∈ news, v.oneCell' = true
  rep : ∀ i y, ys[i]? = some y → ∃ c, cellsRep w I t y c ∧ ∀ j v, c[j]? = some v → news[i * t.size + j]? = some v

theorem cell_of_heap {w w' : World} (h : w'.heap = w.heap) (a : Addr) : w'.cell? a = w.cell? a := by unfold World.cell?; rw [h]

theorem more_slice {t : Ty} {ys : List t.den} {ad : Option Addr} {cap : Nat} (h : ys = [] ∨ ∃ b o, ad = some ⟨b, o, none⟩ ∧ ∀ i x, ys[i]? = some x → ∃ c, cellsRep w I t x c ∧ cellsAt w b (o + i * t.size) c) :
    ∃ news, More P w I t ys (.slice ad ys.length cap) news := by
  rcases h with rfl | ⟨b, o, rfl, hel⟩
  · refine ⟨[], ⟨by simp [Builtin.lenOf], fun w' _ => ?_, by simp, by simp, by simp⟩⟩
    cases ad <;> simp [Builtin.firstCells, loadCells, loadCellsFrom]
  · obtain ⟨news, h1, h2, h3, h4⟩ := row_cells (w := w) (I := I) (l := ys) (f := fun j => w.cell? ⟨b, o + j, none⟩) (fun i x hx => by
      obtain ⟨c, hc, hv⟩ := hel i x hx
      exact ⟨c, hc, fun j v hj => by rw [← Nat.add_assoc]; exact hv j v hj⟩)
    exact ⟨news, ⟨by simp [Builtin.lenOf], fun w' hw' => run_firstCells_some w' t.size ys.length _ _ _ news h1 (fun j v hj => by rw [addr_add, cell_of_heap hw']; exact h2 j v hj), h1, h3, h4⟩⟩

theorem more_cells (h : Inv w0 I0 xs st tm w I tok) {T : TypeId} {s : SV} {v : Value} {t : Ty} {ys : List t.den} (hv : ORep w I tok st tm s v) (hs : moreOf E st T s = some ⟨t, ys⟩) :
    ∃ news, More P w I t ys v news := by
  have viaSeq : seqOf st s = some ⟨t, ys⟩ → ∃ news, More P w I t ys v news := by
    intro hq
    obtain ⟨ad, cap, rfl, hr⟩ := seq_cells h hv hq
    exact more_slice hr
  unfold moreOf at hs
  split at hs
  · rename_i s
    cases hs
    have e := valRep_str.1 hv.p
    subst e
    have hlen : (s.data.toList.map fun b => (b.toNat : Int)).length = s.size := by simp
    refine ⟨s.data.toList.map fun b => .int .u8 b.toNat, ⟨by rw [hlen]; simp [Builtin.lenOf], fun w' _ => ?_, by simp [Ty.size], by intro v hv; obtain ⟨b, _, rfl⟩ := List.mem_map.1 hv; rfl, fun i y hy => ?_⟩⟩
    · rw [hlen]
      simp only [Builtin.firstCells, Sem.run_pure]
      congr 1
      have : s.extract 0 s.size = s := ByteArray.extract_zero_size
      rw [this]
      apply Array.ext'
      simp
    · rw [List.getElem?_map] at hy
      obtain ⟨b, hb, rfl⟩ := Option.map_eq_some_iff.1 hy
      refine ⟨[.int .u8 b.toNat], rfl, fun j v hj => ?_⟩
      cases j with
      | succ j => simp at hj
      | zero =>
        simp only [List.getElem?_cons_zero, Option.some.injEq] at hj; subst hj
        simp only [Ty.size, Nat.mul_one, Nat.add_zero]
        rw [List.getElem?_map, hb]; rfl
  · split at hs
    · cases hs
      have e : v = .slice none 0 0 := hv
      subst e
      exact more_slice (ys := []) (.inl rfl)
    · cases hs
  · exact viaSeq hs

/-- append onto a row that is nobody's. -/
theorem append_core (hE : EnvOK P E) (h : Inv w0 I0 xs st tm w I tok) {dst : Option Nat} (hd : ∀ d, dst = some d → d < st.sl.length) {T T2 ty : TypeId} {u2 : TypeDesc} {t : Ty} (hT : E.T T = some (.sl t)) (h2 : P.underlying T2 = some u2) (hu : sliceOrString u2)
    {nl : Bool} {l ys : List t.den} {ad : Option Addr} {cap : Nat} {x : Value} {news : List Value} (hmore : More P w I t ys x news) (hnl : nl = true ↔ ad = none) (hcap : l.length ≤ cap)
    (hr : cap = 0 ∨ ∃ b o, ad = some ⟨b, o, none⟩ ∧ OwnRep w I b o cap t l ∧ (∀ k, tok k ≠ some b) ∧ ¬ I b ∧ w0.heap.size ≤ b ∧ b < w.heap.size)
    (hbig : (2 * (l.length + ys.length) + 512) * E.B T ≤ 70368744177664) :
    ∃ v w' tok', (Builtin.append_ #[T, T2] ty #[.slice ad l.length cap, x]).run P w = .ok v w' ∧ Inv w0 I0 xs (st.putO dst (.own t (nl && ys.isEmpty) (l ++ ys))) (putT tm dst v) w' I tok' := by
  obtain ⟨_, e, hue, hA⟩ := hE.ty T _ hT
  obtain ⟨i, z, hi, hz, hzc, hsz, hzs⟩ := elem_zero (P := P) w hA
  obtain ⟨hB, hB0⟩ := hE.bytes T e i hue (by rw [hT]; rfl) hi
  have put : ∀ {w2 : World} {nl2 : Bool} {l2 : List t.den} {ad2 : Option Addr} {cap2 : Nat}, Inv w0 I0 xs st tm w2 I tok → (nl2 = true ↔ ad2 = none) → l2.length ≤ cap2 →
      (cap2 = 0 ∨ ∃ b o, ad2 = some ⟨b, o, none⟩ ∧ OwnRep w2 I b o cap2 t l2 ∧ (∀ k, tok k ≠ some b) ∧ ¬ I b ∧ w0.heap.size ≤ b ∧ b < w2.heap.size) →
      ∃ tok', Inv w0 I0 xs (st.putO dst (.own t nl2 l2)) (putT tm dst (.slice ad2 l2.length cap2)) w2 I tok' := by
    intro w2 nl2 l2 ad2 cap2 hi hn hc hrow
    cases dst with
    | none => exact ⟨tok, hi⟩
    | some d => exact hi.putOwn (hd d rfl) hn hc hrow
  have hfc := hmore.cells
  by_cases hroom : l.length + ys.length ≤ cap
  · -- there is room
    rcases hr with h0 | ⟨b, oo, rfl, hrow, hfree, hI, hnew, hlt⟩
    · have hl0 : l = [] := List.eq_nil_of_length_eq_zero (by omega)
      have hy0 : ys = [] := List.eq_nil_of_length_eq_zero (by omega)
      subst hl0; subst hy0
      have hnews : news = [] := List.eq_nil_of_length_eq_zero (by rw [hmore.size]; simp)
      subst hnews
      have hrun := append_room (P := P) (ty := ty) w hue hi h2 hu (ad := ad) (len := 0) (cap := cap) hmore.len (by rw [hsz]; exact hfc w rfl) (by simp) (w2 := w) (fun a _ => by simp [storeCells]) (fun _ => rfl)
      obtain ⟨tok', h3⟩ := put (l2 := []) h (by simpa using hnl) hcap (.inl h0)
      exact ⟨_, w, tok', hrun, by simpa using h3⟩
    · obtain ⟨cs, hblk, hrm, hel⟩ := hrow
      have hns := hmore.size
      have hm1 : (l.length + ys.length) * t.size ≤ cap * t.size := Nat.mul_le_mul_right _ hroom
      rw [Nat.add_mul] at hm1
      have hst := run_storeCells_cells (P := P) b (oo + l.length * t.size) news 0 w (fun j hj => by rw [hblk.cell, List.getElem?_eq_getElem (by omega)]; rfl) (fun j hj => hblk.frozen _ (by omega)) hmore.one
      have hrun := append_room (P := P) (ty := ty) w hue hi h2 hu (ad := some ⟨b, oo, none⟩) (len := l.length) (cap := cap) hmore.len (by rw [hsz]; exact hfc w rfl) hroom (w2 := w.setCells b (oo + l.length * t.size) news)
        (fun a ha => by cases ha; rw [addr_add, hsz]; simpa using hst) (fun hc => by cases hc)
      have hW := Wrote.cells b news (oo + l.length * t.size) w
      have h3 := h.writeFree hfree hI hnew hW
      have hnlf : nl = false := by cases nl with | false => rfl | true => exact absurd (hnl.1 rfl) (by simp)
      subst hnlf
      have hIb : ∀ q, I q → (w.setCells b (oo + l.length * t.size) news).heap[q]? = w.heap[q]? := fun q hq => hW.block q (by rintro rfl; exact hI hq)
      obtain ⟨tok', h4⟩ := put (l2 := l ++ ys) (ad2 := some ⟨b, oo, none⟩) (cap2 := cap) (nl2 := false) h3 (by simp) (by simpa using hroom) (.inr ⟨b, oo, rfl, ⟨_, hblk.setCells (by omega), by rw [splice_length _ _ _ (by omega)]; exact hrm, fun j y hj => by
        rcases Nat.lt_or_ge j l.length with hjl | hjl
        · rw [List.getElem?_append_left hjl] at hj
          obtain ⟨c, hc, hv⟩ := hel j y hj
          refine ⟨c, hc.mono (fun _ hb => hb) hIb, fun q v hq => ?_⟩
          have hql := (List.getElem?_eq_some_iff.1 hq).1
          have hcl := hc.length
          have hm2 : (j + 1) * t.size ≤ l.length * t.size := Nat.mul_le_mul_right _ hjl
          rw [Nat.add_mul, Nat.one_mul] at hm2
          rw [splice_get _ _ _ (by omega), if_neg (by omega)]
          exact hv q v hq
        · rw [List.getElem?_append_right hjl] at hj
          obtain ⟨c, hc, hv⟩ := hmore.rep _ y hj
          refine ⟨c, hc.mono (fun _ hb => hb) hIb, fun q v hq => ?_⟩
          have hql := (List.getElem?_eq_some_iff.1 hq).1
          have hcl := hc.length
          have hj2 : j - l.length < ys.length := (List.getElem?_eq_some_iff.1 hj).1
          have hm2 : (j - l.length + 1) * t.size ≤ ys.length * t.size := Nat.mul_le_mul_right _ hj2
          have hm3 : j * t.size = l.length * t.size + (j - l.length) * t.size := by rw [← Nat.add_mul]; congr 1; omega
          rw [Nat.add_mul, Nat.one_mul] at hm2
          rw [splice_get _ _ _ (by omega), if_pos (by omega), ← hv q v hq]
          congr 1; omega⟩, hfree, hI, hnew, by rw [hW.size]; exact hlt⟩)
      refine ⟨_, _, tok', hrun, ?_⟩
      simpa using h4
  · -- it grows
    have hg : cap < l.length + ys.length := by omega
    have hone : (l.length + ys.length) * 1 ≤ (l.length + ys.length) * E.B T := Nat.mul_le_mul_left _ hB0
    have hle : (l.length + ys.length) * E.B T ≤ (2 * (l.length + ys.length) + 512) * E.B T := Nat.mul_le_mul_right _ (by omega)
    have hby : (l.length + ys.length) * i.bytes ≤ (l.length + ys.length) * E.B T := Nat.mul_le_mul_left _ hB
    have olds : ∃ olds : List Value, (Builtin.firstCells t.size l.length (.slice ad l.length cap)).run P w.drew = .ok olds.toArray w.drew ∧ olds.length = l.length * t.size ∧
        ∀ j y, l[j]? = some y → ∃ c, cellsRep w I t y c ∧ ∀ q v, c[q]? = some v → olds[j * t.size + q]? = some v := by
      rcases hr with h0 | ⟨b, oo, rfl, hrow, _⟩
      · have hl0 : l = [] := List.eq_nil_of_length_eq_zero (by omega)
        subst hl0
        refine ⟨[], ?_, by simp, by simp⟩
        cases ad <;> simp [Builtin.firstCells, loadCells, loadCellsFrom]
      · obtain ⟨cs, hblk, hrm, hel⟩ := hrow
        obtain ⟨olds, q1, q2, q3, q4⟩ := row_cells (w := w) (I := I) (l := l) (f := fun j => cs[oo + j]?) (fun j y hj => by
          obtain ⟨c, hc, hv⟩ := hel j y hj
          exact ⟨c, hc, fun q v hq => by rw [← Nat.add_assoc]; exact hv q v hq⟩)
        refine ⟨olds, run_firstCells_some w.drew t.size l.length _ _ _ olds q1 (fun j v hj => ?_), q1, q4⟩
        rw [addr_add]
        exact (cell_of_heap (w := w) (w' := w.drew) rfl _).trans (by rw [hblk.cell]; exact q2 j v hj)
    obtain ⟨olds, q1, q2, q3⟩ := olds
    have hns := hmore.size
    have hrun := append_grow (P := P) (ty := ty) w hue hi hz h2 hu (ad := ad) (len := l.length) (cap := cap) hmore.len (by rw [hsz]; exact hfc w.drew rfl) (by rw [hsz]; exact q1) hg (by omega) (growslice_fits hg (by omega))
    have hge := grownCap_ge w (l.length + ys.length) cap e
    have h3 := h.grow ((Grew.drew w).trans (Grew.alloc w.drew (.cells (olds.toArray ++ news.toArray ++ Builtin.zeroCells z.cells (grownCap w (l.length + ys.length) cap e - (l.length + ys.length))) e)))
    have hys : ys.isEmpty = false := by
      cases ys with
      | nil => simp at hg; omega
      | cons => rfl
    rw [hys, Bool.and_false]
    have hold : ∀ q, I q → (w.drew.alloc (.cells (olds.toArray ++ news.toArray ++ Builtin.zeroCells z.cells (grownCap w (l.length + ys.length) cap e - (l.length + ys.length))) e)).heap[q]? = w.heap[q]? :=
      fun q hq => ((Grew.drew w).trans (Grew.alloc w.drew _)).block q (h.ilt q hq)
    have hb := Blk.alloc w.drew (olds.toArray ++ news.toArray ++ Builtin.zeroCells z.cells (grownCap w (l.length + ys.length) cap e - (l.length + ys.length))) e
    obtain ⟨tok', h4⟩ := put (l2 := l ++ ys) (ad2 := some ⟨w.heap.size, 0, none⟩) (cap2 := grownCap w (l.length + ys.length) cap e) (nl2 := false) h3 (by simp) (by simpa using hge)
      (.inr ⟨w.heap.size, 0, rfl, ⟨_, hb, by
        simp only [Array.toList_append, List.length_append, Array.length_toList, List.size_toArray, Builtin.zeroCells, Array.size_map, Array.size_range, q2, hns, hzs, ← Nat.add_mul, Nat.zero_add]
        exact Nat.le_of_eq (by congr 1; omega), fun j y hj => by
        rcases Nat.lt_or_ge j l.length with hjl | hjl
        · rw [List.getElem?_append_left hjl] at hj
          obtain ⟨c, hc, hv⟩ := q3 j y hj
          refine ⟨c, hc.mono (fun _ hb => hb) hold, fun q v hq => ?_⟩
          have hv' := hv q v hq
          have := (List.getElem?_eq_some_iff.1 hv').1
          simp only [Array.toList_append, List.append_assoc]
          rw [Nat.zero_add, List.getElem?_append_left (by omega)]
          exact hv'
        · rw [List.getElem?_append_right hjl] at hj
          obtain ⟨c, hc, hv⟩ := hmore.rep _ y hj
          refine ⟨c, hc.mono (fun _ hb => hb) hold, fun q v hq => ?_⟩
          have hv' := hv q v hq
          have := (List.getElem?_eq_some_iff.1 hv').1
          have hm3 : j * t.size = l.length * t.size + (j - l.length) * t.size := by rw [← Nat.add_mul]; congr 1; omega
          simp only [Array.toList_append, List.append_assoc]
          rw [Nat.zero_add, List.getElem?_append_right (by omega), List.getElem?_append_left (by omega), ← hv']
          congr 1; omega⟩, fun k hk => absurd (h.tokLt k _ hk) (Nat.lt_irrefl _), fun hb => absurd (h.ilt _ hb) (Nat.lt_irrefl _), h.size, by simp⟩)
    refine ⟨_, _, tok', hrun, ?_⟩
    simpa using h4
end Go.Own

/- Operations, one by one: the built-in functions; all operations. -/
set_option linter.unusedVariables false
namespace Go.Own
variable {P : Program} {E : Env} {w0 w w' : World} {I0 I : Nat → Prop} {xs : List Nat} {st st' : St} {tm : Array Value} {tok : Tok} {ds : List Deferred} {o : Oper}

theorem list_map1 {α β : Type} {f : α → β} {l : List α} {x : β} (h : l.map f = [x]) : ∃ a, l = [a] ∧ f a = x := by
  match l, h with
  | [a], h => exact ⟨a, rfl, by simpa using h⟩
theorem list_map2 {α β : Type} {f : α → β} {l : List α} {x y : β} (h : l.map f = [x, y]) : ∃ a b, l = [a, b] ∧ f a = x ∧ f b = y := by
  match l, h with
  | [a, b], h => exact ⟨a, b, rfl, by simpa using h⟩
theorem list_mapc {α β : Type} {f : α → β} {l : List α} {x : β} {r : List β} (h : l.map f = x :: r) : ∃ a q, l = a :: q ∧ f a = x ∧ q.map f = r := by
  match l, h with
  | a :: q, h => simp only [List.map_cons, List.cons.injEq] at h; exact ⟨a, q, rfl, h⟩

theorem sv_slice (hE : EnvOK P E) {T2 : TypeId} (h : (∃ t, E.T T2 = some (.sl t)) ∨ E.T T2 = some .str) : ∃ u2, P.underlying T2 = some u2 ∧ sliceOrString u2 := by
  rcases h with ⟨t, h⟩ | h
  · obtain ⟨_, e, hu, _⟩ := hE.ty T2 _ h; exact ⟨_, hu, .inl ⟨e, rfl⟩⟩
  · obtain ⟨_, hu⟩ := hE.ty T2 _ h; exact ⟨_, hu, .inr rfl⟩

theorem Inv.takeOut_len (st : St) (g : Nat) : ({ st with sl := (st.sl.map (SV.off g)).set g .dead } : St).sl.length = st.sl.length := by simp

theorem append_good (hE : EnvOK P E) (h : Inv w0 I0 xs st tm w I tok) (hd : ∀ d, o.dst = some d → d < st.sl.length) {T T2 ty : TypeId} {s1 s2 : SV} {v1 v2 : Value} (h1 : ORep w I tok st tm s1 v1) (h2 : ORep w I tok st tm s2 v2)
    (hT2 : (∃ t, E.T T2 = some (.sl t)) ∨ E.T T2 = some .str) (hf : appendF E o.dst T s1 s2 st = some (true, st')) :
    ∃ v w' tok', (Builtin.append_ #[T, T2] ty #[v1, v2]).run P w = .ok v w' ∧ Inv w0 I0 xs st' (putT tm o.dst v) w' I tok' := by
  obtain ⟨u2, hu2, hsos⟩ := sv_slice hE hT2
  unfold appendF at hf
  cases hm : moreOf E st T s2 with
  | none => rw [hm] at hf; cases hf
  | some uy =>
    obtain ⟨u, ys⟩ := uy
    rw [hm] at hf
    obtain ⟨news, hmore⟩ := more_cells (P := P) h h2 hm
    -- the last step, alike in all cases
    have fin : ∀ {t : Ty} {nl : Bool} {l : List t.den} {st1 : St} {tok1 : Tok} {ad : Option Addr} {cap : Nat}, Inv w0 I0 xs st1 tm w I tok1 → st1.sl.length = st.sl.length → v1 = .slice ad l.length cap → (nl = true ↔ ad = none) → l.length ≤ cap →
        (cap = 0 ∨ ∃ b o, ad = some ⟨b, o, none⟩ ∧ OwnRep w I b o cap t l ∧ (∀ k, tok1 k ≠ some b) ∧ ¬ I b ∧ w0.heap.size ≤ b ∧ b < w.heap.size) →
        appendTo E o.dst T u ys t nl l st1 = some (true, st') →
        ∃ v w' tok', (Builtin.append_ #[T, T2] ty #[v1, v2]).run P w = .ok v w' ∧ Inv w0 I0 xs st' (putT tm o.dst v) w' I tok' := by
      intro t nl l st1 tok1 ad cap h3 hlen e hnl hcap hr ha
      unfold appendTo at ha
      split at ha
      · rename_i hut
        subst hut
        cases hT : E.isT T (.sl u) with
        | false => rw [hT] at ha; cases ha
        | true =>
        rw [hT] at ha
        simp only [cond_true, Option.some.injEq, Prod.mk.injEq, decide_eq_true_eq] at ha
        obtain ⟨hbig, rfl⟩ := ha
        subst e
        exact append_core (P := P) hE h3 (fun d hd' => by rw [hlen]; exact hd d hd') (isT_eq hT) hu2 hsos hmore hnl hcap hr hbig
      · cases ha
    cases s1 with
    | rf g =>
      obtain ⟨hh, e⟩ := h1.rf_eq
      simp only at hf
      cases hs : st.slot g with
      | own t nl l =>
        rw [hs] at hf
        have hg := h.slots g (home_lt st g hh)
        rw [hs] at hg
        obtain ⟨ad, cap, e2, hnl, hcap, hr⟩ := hg
        refine fin (h.takeOut hs) (Inv.takeOut_len st g) (e.trans e2) hnl hcap ?_ hf
        rcases hr with ⟨_, h0⟩ | ⟨b, oo, h3, h4, h5⟩
        · exact .inl h0
        · exact .inr ⟨b, oo, h4, h5, drop_free h h3, h.tokI _ b h3, own_new h h3, h.tokLt _ b h3⟩
      | _ => rw [hs] at hf; cases hf
    | rs g u' lo n =>
      simp only at hf
      cases hs : st.slot g with
      | own t nl l =>
        rw [hs] at hf
        obtain ⟨rfl, hln, ad', cap', e, hcap, hnl, hrow⟩ := own_part h hs h1
        have hlen : ((l.drop lo).take n).length = n := by simp; omega
        refine fin (h.takeOut hs) (Inv.takeOut_len st g) (by rw [hlen]; exact e) hnl (by rw [hlen]; exact hcap) ?_ hf
        rcases hrow with h0 | ⟨b, oo, h3, h4, h5⟩
        · exact .inl h0
        · exact .inr ⟨b, oo, h4, h5, drop_free h h3, h.tokI _ b h3, own_new h h3, h.tokLt _ b h3⟩
      | _ => rw [hs] at hf; cases hf
    | nil =>
      simp only at hf
      cases hT : E.T T with
      | none => rw [hT] at hf; cases hf
      | some tt =>
        rw [hT] at hf
        cases tt with
        | sl t =>
          have e : v1 = .slice none 0 0 := h1
          exact fin (ad := none) (cap := 0) (l := []) h rfl e (by simp) (Nat.le_refl _) (.inl rfl) hf
        | _ => cases hf
    | _ => cases hf

theorem call_builtin {c : Call} {b : Builtin} {ρ : Operand → Value} (ho : o.op = .call c) (hc : c.callee = .builtin b) :
    (execOp ρ o).run P w = (builtin b c.argTypes o.type (c.args.map fun | .const _ => true | _ => false) (c.args.map ρ)).run P w := by
  simp only [execOp, ho, resolve, hc, Sem.run_bind, Sem.run_pure, Result.andThen_ok, invoke]
  rfl

theorem op_builtin {c : Call} {b : Builtin} (hE : EnvOK P E) (h : Inv w0 I0 xs st tm w I tok) (hd : ∀ d, o.dst = some d → d < st.sl.length) (ho : o.op = .call c) (hc : c.callee = .builtin b) (hf : opF E o st = some (true, st')) :
    OpGood P o ds w0 I0 xs st' tm w := by
  have hrun := fun ρ => call_builtin (P := P) (w := w) (ρ := ρ) ho hc
  simp only [opF, ho, hc] at hf
  have hargs : c.args.map (Act.eval ⟨tm, ds⟩) = (c.args.toList.map (Act.eval ⟨tm, ds⟩)).toArray := by apply Array.ext'; simp only [Array.toList_map]
  unfold builtinF at hf
  split at hf
  · -- len
    rename_i T Ts v hT hv
    obtain ⟨a, ha, rfl⟩ := list_map1 hv
    have ev1 := ev_rep (ds := ds) h a
    split at hf
    · rename_i d hl
      simp only [Option.some.injEq, Prod.mk.injEq, true_and] at hf; subst hf
      obtain ⟨u, hu, hr⟩ := len_sound (P := P) (R := o.type) (Ts := Ts) hE h ev1 hl
      refine OpGood.p h hd (v := u) ?_ hr
      rw [hrun, hargs, ha]
      have : c.argTypes = (T :: Ts).toArray := by rw [← hT]
      simp only [builtin, this, List.map_cons, List.map_nil]
      rw [Sem.run_bind]
      rw [show (Builtin.len_ (T :: Ts).toArray o.type [Act.eval ⟨tm, ds⟩ a].toArray).run P w = .ok u w from hu]
      rfl
    · cases hf
  · -- append
    rename_i T T2 x y hT hv
    obtain ⟨a, a2, ha, rfl, rfl⟩ := list_map2 hv
    have key : appendF E o.dst T (ev st a) (ev st a2) st = some (true, st') → ((∃ t, E.T T2 = some (.sl t)) ∨ E.T T2 = some .str) → OpGood P o ds w0 I0 xs st' tm w := by
      intro hf hT2
      obtain ⟨v, w', tok', h1, h2⟩ := append_good (P := P) (ty := o.type) hE h hd (ev_rep (ds := ds) h a) (ev_rep (ds := ds) h a2) hT2 hf
      refine ⟨v, w', I, tok', .inl ?_, h2⟩
      rw [hrun, hargs, ha]
      have : c.argTypes = #[T, T2] := by
        have := congrArg List.toArray hT
        simpa using this
      simp only [builtin, this, List.map_cons, List.map_nil]
      rw [Sem.run_bind]
      rw [show (Builtin.append_ #[T, T2] o.type [Act.eval ⟨tm, ds⟩ a, Act.eval ⟨tm, ds⟩ a2].toArray).run P w = .ok v w' from h1]
      rfl
    split at hf
    · rename_i t e; exact key hf (.inl ⟨t, e⟩)
    · rename_i e; exact key hf (.inr e)
    · cases hf
  · -- max
    rename_i v r hv
    obtain ⟨a, q, ha, rfl, rfl⟩ := list_mapc hv
    split at hf
    · rename_i d hm
      simp only [Option.some.injEq, Prod.mk.injEq, true_and] at hf; subst hf
      obtain ⟨u, hu, hr⟩ := maxS_run (P := P) true _ _ _ (q.map (Act.eval ⟨tm, ds⟩)) d hm (ev_rep (ds := ds) h a) (by simp) (fun k s v h1 h2 => by
        rw [List.getElem?_map] at h1 h2
        obtain ⟨z, hz, rfl⟩ := Option.map_eq_some_iff.1 h1
        rw [hz] at h2
        simp only [Option.map_some, Option.some.injEq] at h2; subst h2
        exact ev_rep h z)
      refine OpGood.p h hd (v := u) ?_ hr
      rw [hrun, hargs, ha]
      simp only [builtin, Builtin.max_, List.map_cons]
      rw [Sem.run_bind]
      simp only [cond_true] at hu
      rw [hu]; rfl
    · cases hf
  · -- min
    rename_i v r hv
    obtain ⟨a, q, ha, rfl, rfl⟩ := list_mapc hv
    split at hf
    · rename_i d hm
      simp only [Option.some.injEq, Prod.mk.injEq, true_and] at hf; subst hf
      obtain ⟨u, hu, hr⟩ := maxS_run (P := P) false _ _ _ (q.map (Act.eval ⟨tm, ds⟩)) d hm (ev_rep (ds := ds) h a) (by simp) (fun k s v h1 h2 => by
        rw [List.getElem?_map] at h1 h2
        obtain ⟨z, hz, rfl⟩ := Option.map_eq_some_iff.1 h1
        rw [hz] at h2
        simp only [Option.map_some, Option.some.injEq] at h2; subst h2
        exact ev_rep h z)
      refine OpGood.p h hd (v := u) ?_ hr
      rw [hrun, hargs, ha]
      simp only [builtin, Builtin.min_, List.map_cons]
      rw [Sem.run_bind]
      simp only [cond_false] at hu
      rw [hu]; rfl
    · cases hf
  · cases hf

/-- All operations that are no calls of functions. -/
theorem opF_sound (hE : EnvOK P E) (h : Inv w0 I0 xs st tm w I tok) (hd : ∀ d, o.dst = some d → d < st.sl.length) (hf : opF E o st = some (true, st')) : OpGood P o ds w0 I0 xs st' tm w := by
  cases ho : o.op with
  | move x => exact op_move hE h hd ho hf
  | assign x => exact op_assign hE h hd ho hf
  | pick c a b => exact op_pick hE h hd ho hf
  | alloc T => exact op_alloc hE h hd ho hf
  | box T x => exact op_box hE h hd ho hf
  | build T parts => exact op_build hE h hd ho hf
  | buildSlice T n parts => exact op_buildSlice hE h hd ho hf
  | load T a => exact op_load hE h hd ho hf
  | nilCheck x => exact op_nilCheck hE h hd ho hf
  | binOp op T x y T' => exact op_binOp hE h hd ho hf
  | unOp op T x => exact op_unOp hE h hd ho hf
  | convert S T x => exact op_convert hE h hd ho hf
  | makeSlice T l c => exact op_makeSlice hE h hd ho hf
  | fieldAddr T x f => exact op_fieldAddr hE h hd ho hf
  | field T x f => exact op_field hE h hd ho hf
  | indexAddr T x i => exact op_indexAddr hE h hd ho hf
  | index T x i => exact op_index hE h hd ho hf
  | makeFunc fn first caps =>
    cases fn with
    | func f => exact op_makeFunc hE h hd ho hf
    | _ => simp only [opF, ho] at hf; cases hf
  | slice T x lo hi mx =>
    cases mx with
    | none => exact op_slice hE h hd ho hf
    | some m => simp only [opF, ho] at hf; cases hf
  | extract t j =>
    cases t with
    | tmp i => exact op_extract hE h hd ho hf
    | _ => simp only [opF, ho] at hf; cases hf
  | call c =>
    cases hc : c.callee with
    | builtin b => exact op_builtin hE h hd ho hc hf
    | _ => simp only [opF, ho, hc] at hf; cases hf
  | store T a x =>
    cases hod : o.dst with
    | none => exact op_store hE h hod ho hf
    | some d => simp only [opF, ho, hod] at hf; cases hf
  | _ => simp only [opF, ho] at hf; cases hf
end Go.Own
