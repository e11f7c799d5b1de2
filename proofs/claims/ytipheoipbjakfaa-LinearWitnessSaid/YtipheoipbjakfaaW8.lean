/- What is proved: the evaluator of the translated code, and that it is sound, part 8. Conditions: those that each theorem names. -/
import Derived.Test.YtipheoipbjakfaaW7
import Derived.Lib.UnsafeStr
import Derived.MapKept
set_option linter.unusedVariables false
set_option linter.unusedSimpArgs false
/- Operations, one by one: copy, clear, slices as arrays. -/
set_option linter.unusedVariables false
namespace Go.Own
variable {C : Cx} {P : Program} {E : Env} {w w' w2 : World} {I I' : Nat → Prop} {st sv : St} {tm : Array Value} {tk tk' : Toks} {ds : List Deferred} {o : Oper} {e : Ef}

theorem over_get {α : Type} (l : List α) (lo : Nat) (ys : List α) (h : lo + ys.length ≤ l.length) (k : Nat) : (over l lo ys)[k]? = if lo ≤ k ∧ k < lo + ys.length then ys[k - lo]? else l[k]? := by
  unfold over
  rw [List.append_assoc]
  by_cases h1 : k < lo
  · rw [List.getElem?_append_left (by simp; omega), if_neg (by omega), List.getElem?_take_of_lt h1]
  · rw [List.getElem?_append_right (by simp; omega)]
    have e : (l.take lo).length = lo := by simp; omega
    rw [e]
    by_cases h2 : k < lo + ys.length
    · rw [List.getElem?_append_left (by omega), if_pos (by omega)]
    · rw [List.getElem?_append_right (by omega), if_neg (by omega), List.getElem?_drop]; congr 1; omega
theorem over_length {α : Type} (l : List α) (lo : Nat) (ys : List α) (h : lo + ys.length ≤ l.length) : (over l lo ys).length = l.length := by
  unfold over; simp; omega
theorem over_nil {α : Type} (l : List α) (lo : Nat) : over l lo [] = l := by unfold over; simp
theorem splice_nil (cs : List Value) (o : Nat) : splice cs o [] = cs := by unfold splice; simp

/-- Elements of a row are written. -/
theorem OwnRep.over {b o cap : Nat} {e : TypeId} {t : Ty} {l : List t.den} (hr : OwnRep w I tk b e o cap t l) (hI : ¬ I b) {lo : Nat} {ys : List t.den} {news : List Value} (hlc : l.length ≤ cap) (hl : lo + ys.length ≤ l.length) (hlen : news.length = ys.length * t.size) (hone : ∀ v ∈ news, v.oneCell' = true)
    (hrep : ∀ i y, ys[i]? = some y → ∃ c, cellsRep w I tk t y c ∧ ∀ j v, c[j]? = some v → news[i * t.size + j]? = some v) :
    (storeCells ⟨b, o + lo * t.size, none⟩ news 0).run P w = .ok () (w.setCells b (o + lo * t.size) news) ∧ OwnRep (w.setCells b (o + lo * t.size) news) I tk b e o cap t (Go.Own.over l lo ys) := by
  obtain ⟨cs, h1, h2, h3⟩ := hr
  have hm : (lo + ys.length) * t.size ≤ cap * t.size := Nat.mul_le_mul_right _ (by omega)
  rw [Nat.add_mul] at hm
  have hW := Wrote.cells b news (o + lo * t.size) w
  have hb : ∀ k, I k → (w.setCells b (o + lo * t.size) news).heap[k]? = w.heap[k]? := fun k hk => hW.other k (by rintro rfl; exact hI hk)
  have hroom : o + lo * t.size + news.length ≤ cs.length := by omega
  refine ⟨?_, splice cs (o + lo * t.size) news, h1.setCells hroom, by rw [splice_length _ _ _ hroom]; exact h2, fun i x hx => ?_⟩
  · exact run_storeCells_cells (P := P) b (o + lo * t.size) news 0 w (fun j hj => by rw [h1.cell, List.getElem?_eq_getElem (by omega)]; rfl) (fun j hj => h1.frozen _ (by omega)) hone
  · rw [over_get _ _ _ hl] at hx
    split at hx
    · rename_i hi
      obtain ⟨c, hc, hv⟩ := hrep _ x hx
      refine ⟨c, hc.mono (fun _ hb => hb) hb (Toks.le.refl _), fun j v hj => ?_⟩
      have hjl := (List.getElem?_eq_some_iff.1 hj).1
      have hcl := hc.length
      have hm2 : (i - lo + 1) * t.size ≤ ys.length * t.size := Nat.mul_le_mul_right _ (by omega)
      have hm3 : i * t.size = lo * t.size + (i - lo) * t.size := by rw [← Nat.add_mul]; congr 1; omega
      rw [Nat.add_mul, Nat.one_mul] at hm2
      rw [splice_get _ _ _ hroom, if_pos (by omega), ← hv j v hj]
      congr 1; omega
    · rename_i hi
      obtain ⟨c, hc, hv⟩ := h3 i x hx
      refine ⟨c, hc.mono (fun _ hb => hb) hb (Toks.le.refl _), fun j v hj => ?_⟩
      have hjl := (List.getElem?_eq_some_iff.1 hj).1
      have hcl := hc.length
      rw [splice_get _ _ _ hroom, if_neg, hv j v hj]
      rintro ⟨q1, q2⟩
      rcases Nat.lt_or_ge i lo with h5 | h5
      · have := Nat.mul_le_mul_right t.size (show i + 1 ≤ lo by omega)
        rw [Nat.add_mul, Nat.one_mul] at this; omega
      · have := Nat.mul_le_mul_right t.size (show lo + ys.length ≤ i by omega)
        rw [Nat.add_mul] at this; omega
/-- .. and of an array. -/
theorem arr_over {t : Ty} {m : Nat} {l : List t.den} {c : List Value} (hr : cellsRep w I tk (.arr m t) l c) {lo : Nat} {ys : List t.den} {news : List Value} (hl : lo + ys.length ≤ m) (hlen : news.length = ys.length * t.size)
    (hrep : ∀ i y, ys[i]? = some y → ∃ c, cellsRep w I tk t y c ∧ ∀ j v, c[j]? = some v → news[i * t.size + j]? = some v) : cellsRep w I tk (.arr m t) (over l lo ys) (splice c (lo * t.size) news) := by
  obtain ⟨h1, h2, h3⟩ := hr
  have h1' : l.length = m := h1
  have hm : (lo + ys.length) * t.size ≤ m * t.size := Nat.mul_le_mul_right _ hl
  rw [Nat.add_mul] at hm
  have hroom : lo * t.size + news.length ≤ c.length := by omega
  refine ⟨by rw [over_length _ _ _ (by omega)]; exact h1, by rw [splice_length _ _ _ hroom]; exact h2, fun i x hx => ?_⟩
  rw [over_get _ _ _ (by omega)] at hx
  split at hx
  · rename_i hi
    obtain ⟨c', hc, hv⟩ := hrep _ x hx
    have hcl := hc.length
    have : ((splice c (lo * t.size) news).drop (i * t.size)).take t.size = c' := by
      apply list_ext
      intro k
      rw [seg_get]
      split
      · rename_i hk
        have hm2 : (i - lo + 1) * t.size ≤ ys.length * t.size := Nat.mul_le_mul_right _ (by omega)
        have hm3 : i * t.size = lo * t.size + (i - lo) * t.size := by rw [← Nat.add_mul]; congr 1; omega
        rw [Nat.add_mul, Nat.one_mul] at hm2
        rw [splice_get _ _ _ hroom, if_pos (by omega), List.getElem?_eq_getElem (by omega : k < c'.length), ← hv k _ (List.getElem?_eq_getElem (by omega))]
        congr 1; omega
      · rw [List.getElem?_eq_none (by omega)]
    rw [this]; exact hc
  · rename_i hi
    have : ((splice c (lo * t.size) news).drop (i * t.size)).take t.size = (c.drop (i * t.size)).take t.size := by
      apply list_ext
      intro k
      rw [seg_get, seg_get]
      split
      · rename_i hk
        rw [splice_get _ _ _ hroom, if_neg]
        rintro ⟨q1, q2⟩
        rcases Nat.lt_or_ge i lo with h5 | h5
        · have := Nat.mul_le_mul_right t.size (show i + 1 ≤ lo by omega)
          rw [Nat.add_mul, Nat.one_mul] at this; omega
        · have := Nat.mul_le_mul_right t.size (show lo + ys.length ≤ i by omega)
          rw [Nat.add_mul] at this; omega
      · rfl
    rw [this]; exact h3 i x hx
theorem splice_splice (cs : List Value) (off n a : Nat) (news : List Value) (h1 : off + n ≤ cs.length) (h2 : a + news.length ≤ n) : splice cs off (splice ((cs.drop off).take n) a news) = splice cs (off + a) news := by
  have hs : ((cs.drop off).take n).length = n := by simp; omega
  apply list_ext
  intro k
  have e : (splice ((cs.drop off).take n) a news).length = n := by rw [splice_length _ _ _ (by omega), hs]
  rw [splice_get _ _ _ (by omega), splice_get _ _ _ (by omega), e]
  by_cases h3 : off ≤ k ∧ k < off + n
  · rw [if_pos h3, splice_get _ _ _ (by omega)]
    by_cases h4 : off + a ≤ k ∧ k < off + a + news.length
    · rw [if_pos h4, if_pos (by omega)]; congr 1; omega
    · rw [if_neg h4, if_neg (by omega), seg_get, if_pos (by omega)]; congr 1; omega
  · rw [if_neg h3, splice_get _ _ _ (by omega), if_neg (by omega)]

/-- Elements of an own array are overwritten. -/
theorem over_sound (hV : View sv st) (h : Inv C st tm w I tk) {x : SV} {v : Value} {u : Ty} {ysf : Nat → List u.den} {n : Nat} {ps : List Pm} (hx : SRep w I tk x v) (ho : overP sv x u ysf = some (n, ps)) (hp : u.plain = true) {news : List Value}
    (hys : (ysf n).length ≤ n) (hlen : news.length = (ysf n).length * u.size) (hone : ∀ v ∈ news, v.oneCell' = true) (hrep : ∀ i y, (ysf n)[i]? = some y → ∃ c, cellsRep w I tk u y c ∧ ∀ j v, c[j]? = some v → news[i * u.size + j]? = some v) :
    ∃ ad cap w', v = .slice ad n cap ∧ (∀ a, ad = some a → (storeCells a news 0).run C.P w = .ok () w') ∧ (ad = none → w' = w) ∧ Inv C (runPs ps st) tm w' I tk := by
  have none_news : ysf n = [] → news = [] := fun h0 => List.eq_nil_of_length_eq_zero (by rw [hlen, h0]; simp)
  have dyn : ∀ {g lo : Nat} {q : Tk} {l : Bool × List u.den} {ad : Option Addr}, tk g = some q → st.box g = some ⟨.dyn u, l⟩ → lo + (ysf n).length ≤ l.2.length → (lo < q.cap → ad = q.ad.map (·.add (lo * u.size))) → (ad = none ↔ q.ad = none) →
      ∃ w', (∀ a, ad = some a → (storeCells a news 0).run C.P w = .ok () w') ∧ (ad = none → w' = w) ∧ Inv C (st.setBox g ⟨.dyn u, (l.1, over l.2 lo (ysf n))⟩) tm w' I tk := by
    intro g lo q l ad h1 hb hl ha hn
    obtain ⟨q', h2, h3⟩ := h.boxes g _ hb
    rw [h1] at h2; cases h2
    obtain ⟨k1, k2, k3, k4, k5, k6⟩ := h3
    rcases k6 with ⟨k6, k7⟩ | ⟨b, k6, k7, k8⟩
    · have h0 : ysf n = [] := List.eq_nil_of_length_eq_zero (by omega)
      rw [none_news h0, h0, over_nil]
      refine ⟨w, fun a _ => by simp [storeCells], fun _ => rfl, h.tellBox hb h1 ?_⟩
      exact ⟨k1, k2, k3, k4, k5, .inl ⟨k6, k7⟩⟩
    · by_cases hlo : lo < q.cap
      · have ead : ad = some ⟨b, q.off + lo * u.size, none⟩ := by rw [ha hlo, k7]; simp [addr_add]
        obtain ⟨g1, g2⟩ := k8.over (P := C.P) (h.tokI g q b h1 k6) k4 hl hlen hone hrep
        refine ⟨_, fun a e => by rw [ead] at e; cases e; exact g1, fun e => (by rw [ead] at e; cases e), h.writeBox hb h1 k6 (Wrote.cells _ _ _ _) ?_⟩
        refine ⟨k1, k2, ?_, ?_, k5, .inr ⟨b, k6, k7, g2⟩⟩
        · show q.len = (over l.2 lo (ysf n)).length; rw [over_length _ _ _ hl]; exact k3
        · show (over l.2 lo (ysf n)).length ≤ q.cap; rw [over_length _ _ _ hl]; exact k4
      · have h0 : ysf n = [] := List.eq_nil_of_length_eq_zero (by omega)
        rw [none_news h0, h0, over_nil]
        refine ⟨w, fun a _ => by simp [storeCells], fun _ => rfl, h.tellBox hb h1 ?_⟩
        exact ⟨k1, k2, k3, k4, k5, .inr ⟨b, k6, k7, k8⟩⟩
  unfold overP at ho
  split at ho
  · rename_i g t
    split at ho
    · rename_i t' l hb
      split at ho
      · rename_i hut
        subst hut
        cases ho
        have hb' := hV.box _ _ hb
        obtain ⟨q, h1, h2, rfl⟩ := hx
        obtain ⟨q', h3, h4⟩ := h.boxes _ _ hb'
        rw [h1] at h3; cases h3
        obtain ⟨k1, k2, k3, _⟩ := h4
        obtain ⟨w', g1, g2, g3⟩ := dyn (lo := 0) (ad := q.ad) h1 hb' (by omega) (fun _ => by cases q.ad <;> simp [Addr.add]) Iff.rfl
        exact ⟨q.ad, q.cap, w', by unfold Tk.hdr; rw [k3], g1, g2, g3⟩
      · cases ho
    · cases ho
  · rename_i g t pa lo n0
    split at ho
    · rename_i d hb
      have hb' := hV.box _ _ hb
      obtain ⟨q, hq, hvs⟩ := hx
      obtain ⟨q', h3, h4⟩ := h.boxes _ _ hb'
      rw [hq] at h3; cases h3
      split at ho
      · rename_i t' l hg
        split at ho
        · rename_i hut
          subst hut
          cases pa with
          | cons => cases ho
          | nil =>
          simp only [List.isEmpty_nil, cond_true, Option.some.injEq, Prod.mk.injEq] at ho
          obtain ⟨rfl, rfl⟩ := ho
          have hyd : d = ⟨.dyn u, l⟩ := by
            have : some d = some ⟨.dyn u, l⟩ := by rw [← hg]; obtain ⟨dt, dx⟩ := d; cases dt <;> rfl
            exact Option.some.inj this
          subst hyd
          obtain ⟨k1, k2, k3, _⟩ := h4
          rcases hvs with ⟨_, hty, ⟨hl1, hl2⟩, ad', rfl, ha, hn⟩ | ⟨b, off, m0, hat, _⟩
          · have ht : t = u := by rw [k1] at hty; cases hty; rfl
            subst ht
            obtain ⟨w', g1, g2, g3⟩ := dyn (lo := lo) (ad := ad') hq hb' (by omega) ha hn
            exact ⟨ad', _, w', rfl, g1, g2, g3⟩
          · exfalso
            obtain ⟨o, _, e2, _⟩ := Tk.at_some hat
            rw [k1, pathAt_nil] at e2
            cases e2
        · cases ho
      · rename_i m t' l hg
        split at ho
        · rename_i hut
          subst hut
          obtain ⟨z, hz, e⟩ := Option.map_eq_some_iff.1 ho
          simp only [Prod.mk.injEq] at e
          obtain ⟨rfl, rfl⟩ := e
          rcases hvs with ⟨rfl, hty, _⟩ | ⟨b, off, m0, hat, hin, hl, ad', rfl, ha⟩
          · exfalso
            have hyd : d = ⟨.arr m u, l⟩ := by
              have : some d = some ⟨.arr m u, l⟩ := by rw [← hg]; obtain ⟨dt, dx⟩ := d; cases dt <;> rfl
              exact Option.some.inj this
            subst hyd
            obtain ⟨g1, _⟩ := (BoxRep.str (t := .arr _ _) (x := l) rfl).1 h4
            rw [hty] at g1; cases g1
          · obtain ⟨o, g1, g2, rfl⟩ := Tk.at_some hat
            obtain ⟨off, cs, f1, f2, f3, f4⟩ := box_at h4 g1 hg hin rfl
            rw [g2] at f1
            simp only [Ty.frz, Option.some.injEq, Prod.mk.injEq, Ty.arr.injEq] at f1
            obtain ⟨rfl, rfl, ht0⟩ := f1
            rw [Ty.frz_plain hp] at ht0
            subst ht0
            have hm : (lo + (ysf n0).length) * t.size ≤ m0 * t.size := Nat.mul_le_mul_right _ (by omega)
            rw [Nat.add_mul] at hm
            have hroom : (Ty.arr m0 t).size = m0 * t.size := rfl
            rw [hroom] at f3
            have hc := arr_over f4 (lo := lo) (ys := ysf n0) (by omega) hlen hrep
            have hI := h.tokI g q b hq g1
            obtain ⟨hnew, _⟩ := box_setG (x := ⟨.arr m0 t, over l lo (ysf n0)⟩) (w' := w.setCells b (q.off + o + lo * t.size) news) h4 g1 hz hin (by rw [g2]; show some (o, Ty.arr m0 t) = some (o, Ty.arr m0 t.frz); rw [Ty.frz_plain hp]) rfl (plain_known hp) hc hI (Wrote.cells b news (q.off + o + lo * t.size) w) (fun cs' h5 h6 => by
              obtain ⟨_, rfl⟩ := f2.same h5
              rw [splice_splice _ _ _ _ _ (by rw [hroom]; omega) (by rw [hroom]; omega)]
              exact f2.setCells (by omega))
            refine ⟨some ad', _, _, rfl, fun a e => ?_, fun e => (by cases e), h.writeBox hb' hq g1 (Wrote.cells _ _ _ _) hnew⟩
            cases e
            by_cases hlo : lo < m0
            · rw [ha hlo]
              exact run_storeCells_cells (P := C.P) b (q.off + o + lo * t.size) news 0 w (fun j hj => by rw [f2.cell, List.getElem?_eq_getElem (by omega)]; rfl) (fun j hj => f2.frozen _ (by omega)) hone
            · have h0 : ysf n0 = [] := List.eq_nil_of_length_eq_zero (by omega)
              rw [none_news h0]
              rfl
        · cases ho
      · cases ho
    · cases ho
  · cases ho

theorem copy_good {T T2 ty : TypeId} {s1 s2 : SV} {v1 v2 : Value} {u : Ty} {ys : List u.den} {n : Nat} {ps : List Pm} (hE : EnvOK C.P E) (hV : View sv st) (h : Inv C st tm w I tk) (h1 : SRep w I tk s1 v1) (h2 : SRep w I tk s2 v2)
    (hT : E.isT T (.sl u) = true) (hp : u.plain = true) (hm : moreOf E sv T2 s2 = some ⟨u, ys⟩) (ho : overP sv s1 u (fun n => ys.take n) = some (n, ps)) :
    ∃ w', (Builtin.copy_ #[T, T2] ty #[v1, v2]).run C.P w = .ok (goInt ((min n ys.length : Nat) : Int)) w' ∧ Inv C (runPs ps st) tm w' I tk := by
  obtain ⟨news, hmore⟩ := more_cells (P := C.P) hV h hp h2 hm
  obtain ⟨_, e, hue, hA0⟩ := hE.ty T _ (isT_sl hT)
  have hA : TyAt C.P e u := hA0
  obtain ⟨i, z, hi, hz, hzc, hsz, hzs⟩ := elem_zero hA hp
  have hns := hmore.size
  have hml : (min n ys.length) * u.size ≤ ys.length * u.size := Nat.mul_le_mul_right _ (Nat.min_le_right _ _)
  have hfl := hmore.cellsK (min n ys.length) (Nat.min_le_right _ _) w rfl
  have htl : (ys.take n).length = min n ys.length := List.length_take
  obtain ⟨ad, cap, w', rfl, g1, g2, g3⟩ := over_sound (news := news.take ((min n ys.length) * u.size)) hV h h1 ho hp (by simp; omega) (by rw [List.length_take, htl]; omega) (fun v hv => hmore.one v (List.mem_of_mem_take hv)) (fun j y hj => by
    rw [List.getElem?_take] at hj
    split at hj
    · rename_i hjn
      obtain ⟨c, hc, hv⟩ := hmore.rep j y hj
      refine ⟨c, hc, fun k v hk => ?_⟩
      have hjl := (List.getElem?_eq_some_iff.1 hj).1
      have hkl := (List.getElem?_eq_some_iff.1 hk).1
      have hcl := hc.length
      have hm2 : (j + 1) * u.size ≤ (min n ys.length) * u.size := Nat.mul_le_mul_right _ (by omega)
      rw [Nat.add_mul, Nat.one_mul] at hm2
      rw [List.getElem?_take_of_lt (by omega)]
      exact hv k v hk
    · cases hj)
  refine ⟨w', ?_, g3⟩
  have hmin : Nat.min ys.length n = min n ys.length := Nat.min_comm _ _
  cases ad with
  | none =>
    have := g2 rfl
    subst this
    simp [Builtin.copy_, run_underlying hue, hmore.len, sizeOf, typeInfo, hi, hsz, hmin, hfl]
  | some a =>
    have := g1 a rfl
    simp [Builtin.copy_, run_underlying hue, hmore.len, sizeOf, typeInfo, hi, hsz, hmin, hfl, this]

theorem zeros_get (z : Array Value) (n k : Nat) (hz : 0 < z.size) (hk : k < n * z.size) : (Builtin.zeroCells z n).toList[k]? = z[k % z.size]? := by
  have := Nat.mod_lt k hz
  simp [Builtin.zeroCells, hk, this]
theorem zero_ones {t : Ty} (hp : t.plain = true) : ∀ v ∈ t.zcells, v.oneCell' = true :=
  fun v hv => (zcells_plain (w := default) (I := fun _ => False) (tk := fun _ => none) hp).ones (plain_known hp) v hv

theorem clear_good {T ty : TypeId} {s1 : SV} {v1 : Value} {u : Ty} {n : Nat} {ps : List Pm} (hE : EnvOK C.P E) (hV : View sv st) (h : Inv C st tm w I tk) (h1 : SRep w I tk s1 v1)
    (hT : E.T T = some (.sl u)) (hp : u.plain = true) (ho : overP sv s1 u (fun n => List.replicate n u.dflt) = some (n, ps)) :
    ∃ w', (Builtin.clear_ #[T] ty #[v1]).run C.P w = .ok (.tuple #[]) w' ∧ Inv C (runPs ps st) tm w' I tk := by
  obtain ⟨_, e, hue, hA0⟩ := hE.ty T _ hT
  have hA : TyAt C.P e u := hA0
  obtain ⟨i, z, hi, hz, hzc, hsz, hzs⟩ := elem_zero hA hp
  have hzl := zlen hp
  have hlen : (Builtin.zeroCells z.cells n).toList.length = n * u.size := by simp [Builtin.zeroCells, hzs]
  obtain ⟨ad, cap, w', rfl, g1, g2, g3⟩ := over_sound (news := (Builtin.zeroCells z.cells n).toList) hV h h1 ho hp (by simp) (by rw [hlen]; simp) (fun v hv => by
    obtain ⟨k, hk⟩ := List.mem_iff_getElem?.1 hv
    have hkl := (List.getElem?_eq_some_iff.1 hk).1
    rw [hlen] at hkl
    have hu : 0 < z.cells.size := by
      rw [hzs]
      rcases Nat.eq_zero_or_pos u.size with h0 | h0
      · rw [h0] at hkl; omega
      · exact h0
    rw [zeros_get _ _ _ hu (by rw [hzs]; exact hkl)] at hk
    exact zero_ones hp v (by rw [← hzc]; exact Array.mem_toList_iff.2 (Array.mem_of_getElem? hk))) (fun j y hj => by
    rw [List.getElem?_replicate] at hj
    split at hj
    · rename_i hjn
      cases hj
      refine ⟨u.zcells, zcells_plain hp, fun k v hk => ?_⟩
      have hkl := (List.getElem?_eq_some_iff.1 hk).1
      have hm : (j + 1) * u.size ≤ n * u.size := Nat.mul_le_mul_right _ (by omega)
      rw [Nat.add_mul, Nat.one_mul] at hm
      rw [zeros_get _ _ _ (by omega) (by rw [hzs]; omega), hzs, Nat.mul_comm, Nat.mul_add_mod, Nat.mod_eq_of_lt (by omega), ← hk, ← hzc]
      simp
    · cases hj)
  refine ⟨w', ?_, g3⟩
  cases ad with
  | none =>
    have := g2 rfl
    subst this
    simp [Builtin.clear_, run_underlying hue]
  | some a =>
    have hr := g1 a rfl
    cases n with
    | zero =>
      have : (Builtin.zeroCells z.cells 0).toList = [] := by simp [Builtin.zeroCells]
      rw [this] at hr
      simp only [storeCells, Sem.run_pure, Result.ok.injEq, true_and] at hr
      subst hr
      simp [Builtin.clear_, run_underlying hue]
    | succ n =>
      simp [Builtin.clear_, run_underlying hue, zeroValue, typeInfo, hi, hz, hr]

theorem row_arr {t : Ty} {n : Nat} {l : List t.den} {cs : List Value} (hl : l.length = n) (hc : cs.length = n * t.size) (h4 : ∀ i x, l[i]? = some x → ∃ c, cellsRep w I tk t x c ∧ ∀ j v, c[j]? = some v → cs[i * t.size + j]? = some v) : cellsRep w I tk (.arr n t) l cs := by
  refine ⟨hl, hc, fun i x hx => ?_⟩
  obtain ⟨c, hc1, hv⟩ := h4 i x hx
  have hcl := hc1.length
  have hi := (List.getElem?_eq_some_iff.1 hx).1
  have hm : (i + 1) * t.size ≤ n * t.size := Nat.mul_le_mul_right _ (by omega)
  rw [Nat.add_mul, Nat.one_mul] at hm
  have : (cs.drop (i * t.size)).take t.size = c := by
    apply list_ext
    intro k
    rw [seg_get]
    split
    · rename_i hk
      rw [List.getElem?_eq_getElem (by omega : k < c.length)]
      exact hv k _ (List.getElem?_eq_getElem _)
    · rw [List.getElem?_eq_none (by omega)]
  rw [this]; exact hc1

/-- A slice as a pointer to an array. -/
theorem op_slArr {T : TypeId} {x : Operand} (hE : EnvOK C.P E) (hV : View sv st) (h : Inv C st tm w I tk) (hd : ∀ d, o.dst = some d → d < st.sl.length) (ho : o.op = .sliceToArrayPointer T x) (hf : opP E o sv = some (true, e)) :
    OpGood C o ds (e.run o.dst st) tm w := by
  have hx := ev_rep (ds := ds) hV h x
  simp only [opP, ho] at hf
  split at hf
  · rename_i n u hT
    cases hq : (Nat.ble 1 n && u.size != 0) with
    | false => rw [hq] at hf; cases hf
    | true =>
    rw [hq] at hf
    simp only [cond_true] at hf
    simp only [Bool.and_eq_true, bne_iff_ne, ne_eq] at hq
    obtain ⟨hn1, hu0⟩ := hq
    have hn1 := Nat.le_of_ble_eq_true hn1
    obtain ⟨r, hr, e1⟩ := Option.map_eq_some_iff.1 hf
    simp only [Prod.mk.injEq] at e1
    obtain ⟨hc, rfl⟩ := e1
    obtain ⟨c, r⟩ := r
    dsimp only at hc
    subst hc
    obtain ⟨_, e, hu, hA0⟩ := hE.ty T _ hT
    have fin : ∀ {ad : Option Addr} {len cap : Nat}, Act.eval ⟨tm, ds⟩ x = .slice ad len cap → n ≤ len → SRep w I tk r (.pointer ad) → OpGood C o ds (Ef.run o.dst ⟨[], some r⟩ st) tm w := by
      intro ad len cap e1 hl hs
      refine OpGood.v (x := .pointer ad) h hd ?_ hs
      have : ¬ len < n := by omega
      simp [execOp, ho, e1, Instr.arrayAt, run_underlying hu, this]
    unfold arrPtr at hr
    split at hr
    · rename_i t l e1
      rw [e1] at hx
      cases htu : decide (t = u) with
      | false => rw [htu] at hr; cases hr
      | true =>
      rw [htu] at hr
      simp only [cond_true, Option.some.injEq, Prod.mk.injEq, decide_eq_true_eq] at hr
      obtain ⟨hnl, rfl⟩ := hr
      have hv := hx.p
      simp only [valRep, Ty.isAgg, Bool.false_eq_true, if_false, cellsRep, List.cons.injEq, and_true] at hv
      obtain ⟨ad, cap, e2, hcap, hv⟩ := hv
      rcases hv with rfl | ⟨hp, b, o0, rfl, hI, hel⟩
      · simp at hnl; omega
      · refine fin e2 hnl ?_
        obtain ⟨cs, q1, q2, q3, q4⟩ := row_cells hp (w := w) (I := I) (tk := tk) (l := l.take n) (f := fun j => w.cell? ⟨b, o0 + j, none⟩) (fun j y hj => by
          rw [List.getElem?_take] at hj
          split at hj
          · obtain ⟨c, hc, hv⟩ := hel j y hj
            exact ⟨c, hc, fun q v hq => by rw [← Nat.add_assoc]; exact hv q v hq⟩
          · cases hj)
        have hlen : (l.take n).length = n := by simp; omega
        refine SRep.of1 ⟨hp, ?_⟩
        unfold valRep
        rw [if_neg (by simp [Ty.isAgg])]
        exact ⟨hp, b, o0, cs, rfl, hI, row_arr hlen (by rw [q1, hlen]) q4, fun j v hj => q2 j v hj⟩
    · rename_i s t pa lo k e1
      rw [e1] at hx
      cases htu : (decide (t = u) && vsOK sv s pa) with
      | false => rw [htu] at hr; cases hr
      | true =>
      rw [htu] at hr
      simp only [cond_true, Option.some.injEq, Prod.mk.injEq, decide_eq_true_eq] at hr
      simp only [Bool.and_eq_true, decide_eq_true_eq] at htu
      obtain ⟨rfl, hok⟩ := htu
      obtain ⟨hnk, rfl⟩ := hr
      obtain ⟨q, hq, hvs⟩ := hx
      rcases hvs with ⟨rfl, hty, ⟨hl1, hl2⟩, ad', e2, ha, hn⟩ | ⟨b, off, m0, hat, hin, hl, ad', e2, ha⟩
      · simp only [vsOK] at hok
        split at hok
        · rename_i t' l' hb
          obtain ⟨q', h3, h4⟩ := h.boxes _ _ (hV.box _ _ hb)
          rw [hq] at h3; cases h3
          obtain ⟨k1, k2, k3, k4, k5, k6⟩ := h4
          have ht : t = t' := by rw [k1] at hty; cases hty; rfl
          subst ht
          rcases k6 with ⟨_, k6⟩ | ⟨b, k6, k7, _⟩
          · omega
          · refine fin e2 hnk ?_
            rw [ha (by omega), k7]
            refine SRep.of1 ⟨q, b, q.off + (lo * t.size + 0), hq, Tk.at_of k6 (by rw [k1]; rfl), by rw [k1]; exact ⟨by omega, trivial⟩, by simp [addr_add]⟩
        · rename_i n0 t0 x hb
          obtain ⟨q', hq', hd⟩ := h.boxes _ _ (hV.box _ _ hb)
          rw [hq] at hq'; cases hq'
          have h1 : q.ty = (Ty.arr n0 t0).frz := hd.1
          rw [hty] at h1; cases h1
        · cases hok
      · refine fin e2 hnk ?_
        obtain ⟨o1, g1, g2, rfl⟩ := Tk.at_some hat
        rw [ha (by omega)]
        refine SRep.of1 ⟨q, b, q.off + (o1 + (lo * t.size + 0)), hq, Tk.at_of g1 (pathAt_append g2 (by rfl)), pathIn_append _ g2 hin ⟨by omega, trivial⟩, ?_⟩
        congr 3; omega
    · cases hr
  · cases hf
end Go.Own

/- Operations, one by one: bytes as a string without a copy; maps. -/
set_option linter.unusedVariables false
namespace Go.Own
variable {C : Cx} {P : Program} {E : Env} {w w' w2 : World} {I I' : Nat → Prop} {st sv : St} {tm : Array Value} {tk tk' : Toks} {ds : List Deferred} {o : Oper} {e : Ef}

theorem run_loadInts : ∀ (l : List Int) (b o : Nat) (acc : ByteArray), (∀ j x, l[j]? = some x → w.cell? ⟨b, o + j, none⟩ = some (.int .u8 x)) →
    (loadBytes ⟨b, o, none⟩ acc l.length).run P w = .ok ⟨acc.data ++ (l.map fun n => UInt8.ofNat n.toNat).toArray⟩ w
  | [], b, o, acc, _ => by simp [loadBytes]
  | x :: l, b, o, acc, h => by
    have h0 : w.cell? ⟨b, o, none⟩ = some (.int .u8 x) := by simpa using h 0 x rfl
    have ih := run_loadInts l b (o + 1) (acc.push (UInt8.ofNat x.toNat)) (fun j y hy => by
      have := h (j + 1) y (by simpa using hy)
      rw [show o + 1 + j = o + (j + 1) by omega]; exact this)
    have ha : (⟨b, o, none⟩ : Addr).add 1 = ⟨b, o + 1, none⟩ := addr_add _ _ _
    have hx : x.toNat.toUInt8 = UInt8.ofNat x.toNat := rfl
    simp only [List.length_cons, loadBytes, Sem.run_bind, run_load, h0, Result.andThen, ha, hx]
    rw [ih]
    congr 1
    apply ByteArray.ext
    simp [ByteArray.push]

theorem freeze_wrote (a : Addr) (n : Nat) (w : World) : Wrote a.block w (w.freeze a n) := by
  unfold World.freeze
  split
  · exact Wrote.refl _ _
  · refine ⟨fun k hk => ?_, by simp, rfl, rfl, rfl⟩
    simp [Array.getElem?_modify, Ne.symm hk]

theorem lies_u8 {e eb : TypeId} (h1 : TyAt P e (.int .u8)) (h2 : TyAt P eb (.int .u8)) {count off n : Nat} (hn : off + n ≤ count) : liesAt P P.depth eb count off e n = true := by
  have hs := h2.base.size
  have hc : P.cellsOf eb = 1 := by unfold Program.cellsOf; rw [hs]; rfl
  have hd : P.depth = (2 * (P.types.size + Made.depth) + 1) + 1 := rfl
  rw [hd]
  simp only [liesAt, Bool.or_eq_true]
  left
  rw [hd]
  simp [rowAt, hc, hn, sameLayout, h1.2, h2.2, Nat.mod_one]

theorem string_good {pt it ty : TypeId} {s : Nat} {l : Bool × List Int} {v1 : Value} (hE : EnvOK C.P E) (hV : View sv st) (h : Inv C st tm w I tk) (hT : E.T pt = some (.ref (.int .u8))) (h1 : SRep w I tk (.ud s (.int .u8)) v1)
    (hb : sv.box s = some ⟨.dyn (.int .u8), l⟩) (h63 : l.2.length ≤ 9223372036854775807) :
    ∃ w' tk', (Builtin.unsafeString_ #[pt, it] ty #[v1, .int .i64 (l.2.length : Int)]).run C.P w = .ok (.string (bytesOf l.2)) w' ∧ Inv C (runPs [.kill s, .del s] st) tm w' I tk' := by
  obtain ⟨q, g1, g2, p, rfl, g3, g4⟩ := h1
  obtain ⟨q', g5, g6⟩ := h.boxes _ _ (hV.box _ _ hb)
  rw [g1] at g5; cases g5
  obtain ⟨k1, k2, k3, k4, k5, k6⟩ := g6
  obtain ⟨h3, h4⟩ := h.giveUp g1
  rcases Nat.eq_zero_or_pos l.2.length with h0 | h0
  · refine ⟨w, _, ?_, h3⟩
    have := Lib.run_unsafeString_none (P := C.P) w pt it ty p
    have hl : l.2 = [] := List.eq_nil_of_length_eq_zero h0
    rw [hl]
    exact this
  · rcases k6 with ⟨_, k6⟩ | ⟨b, k6, k7, cs, k8, k9, k10⟩
    · omega
    · obtain ⟨m1, m2, m3, m4⟩ := h4 b k6
      have hp := g3 (by omega)
      rw [k7] at hp
      subst hp
      have hty := h.tys s q b g1 k6
      unfold TokTy at hty
      rw [k1] at hty
      have hty' : TyAt C.P q.tid (.int .u8) := hty
      obtain ⟨_, e, hue, hA0⟩ := hE.ty pt _ hT
      have hA : TyAt C.P e (.int .u8) := hA0
      have hs := hty'.base.size
      have hc : C.P.cellsOf q.tid = 1 := by unfold Program.cellsOf; rw [hs]; rfl
      obtain ⟨c, fr, f1, f2, _⟩ := k8
      have hsh : w.shape? b = some (q.tid, c.size) := by unfold World.shape?; rw [f1]
      have hcl : c.size = cs.length := by rw [← f2]; simp
      have hroom : q.off + l.2.length ≤ c.size := by simp only [Ty.size, Nat.mul_one] at k9; omega
      have hlies := lies_u8 hA hty' (count := c.size / C.P.cellsOf q.tid) (off := q.off) (n := l.2.length) (by rw [hc]; simpa using hroom)
      have hlb := run_loadInts (P := C.P) (w := w) l.2 b q.off .empty (fun j x hx => by
        obtain ⟨c', hc', hv⟩ := k10 j x hx
        have hc'' : c' = [.int .u8 x] := hc'
        subst hc''
        have := hv 0 _ rfl
        have k8' : Blk w b q.tid cs := ⟨c, fr, f1, f2, by assumption⟩
        rw [k8'.cell]
        simpa [Ty.size] using this)
      refine ⟨w.freeze ⟨b, q.off, none⟩ l.2.length, _, ?_, h3.writeFree m1 m2 m3 (freeze_wrote ⟨b, q.off, none⟩ _ w)⟩
      have hneg : ¬ (l.2.length : Int) < 0 := by omega
      have h63' : ¬ (9223372036854775807 : Int) < (l.2.length : Int) := by omega
      obtain ⟨a1, a2, a3, hdef⟩ : ∃ (a1 a2 : Sem PUnit) (a3 : Sem Value), Builtin.unsafeString_ #[pt, it] ty #[.pointer (some ⟨b, q.off, none⟩), .int .i64 l.2.length] =
          (do
            let n ← asInt (.int .i64 l.2.length)
            if n < 0 then a1
            if n > IntKind.i64.max then a2
            if n = 0 then pure (.string .empty)
            else if ← variablesAt ⟨b, q.off, none⟩ (← elemOf pt) n.toNat then do
              let s ← loadBytes ⟨b, q.off, none⟩ .empty n.toNat
              freeze ⟨b, q.off, none⟩ n.toNat
              pure (.string s)
            else a3) := ⟨_, _, _, rfl⟩
      rw [hdef]
      have hmax : IntKind.i64.max = 9223372036854775807 := rfl
      have hl0 : l.2.length ≠ 0 := by omega
      have hl0' : l.2 ≠ [] := by intro e; rw [e] at hl0; exact hl0 rfl
      simp [asInt, asIntOf, hmax, h63', hneg, hl0', variablesAt, hsh, elemOf, run_underlying hue, hlies, hlb, bytesOf]
end Go.Own

/- Operations, one by one: maps. -/
set_option linter.unusedVariables false
namespace Go.Own
variable {C : Cx} {P : Program} {E : Env} {w w' w2 : World} {I I' : Nat → Prop} {st sv : St} {tm : Array Value} {tk tk' : Toks} {ds : List Deferred} {o : Oper} {e : Ef}

theorem mk_key : ∀ {t : Ty}, t.mkOK = true → t.keyOK = true := by
  intro t
  induction t with
  | pair a b iha ihb => intro h; simp only [Ty.mkOK, Bool.and_eq_true] at h; simp [Ty.keyOK, iha h.1, ihb h.2]
  | _ => intro h; first | rfl | cases h
theorem ba_beq (a b : ByteArray) : (a == b) = true ↔ a = b := by
  obtain ⟨a⟩ := a
  obtain ⟨b⟩ := b
  constructor
  · intro h
    have : (a == b) = true := h
    rw [eq_of_beq this]
  · intro h
    cases h
    show (a == a) = true
    exact beq_self_eq_true a
/-- Keys are held against each other as data. -/
theorem eqT_mk : ∀ {t : Ty}, t.mkOK = true → ∀ x y : t.den, ∃ r, eqT t x y = some r ∧ (r = true ↔ x = y) := by
  intro t
  induction t with
  | pair a b iha ihb =>
    intro h x y
    simp only [Ty.mkOK, Bool.and_eq_true] at h
    obtain ⟨r1, h1, h2⟩ := iha h.1 x.1 y.1
    obtain ⟨r2, h3, h4⟩ := ihb h.2 x.2 y.2
    refine ⟨r1 && r2, by simp only [eqT, h1, h3], ?_⟩
    simp only [Bool.and_eq_true, h2, h4]
    exact ⟨fun h => Prod.ext h.1 h.2, fun h => by rw [h]; exact ⟨rfl, rfl⟩⟩
  | int k => intro _ x y; exact ⟨_, rfl, by simp⟩
  | bool => intro _ x y; exact ⟨_, rfl, by simp⟩
  | str => intro _ x y; exact ⟨_, rfl, ba_beq x y⟩
  | unit => intro _ x y; exact ⟨true, rfl, by simp⟩
  | eos u => intro _ x y; exact ⟨true, rfl, by simp⟩
  | _ => intro h; cases h
theorem eqK_iff {t : Ty} (h : t.mkOK = true) (x y : t.den) : eqK t x y = true ↔ x = y := by
  obtain ⟨r, h1, h2⟩ := eqT_mk h x y
  unfold eqK
  rw [h1]
  exact h2
theorem eqK_some {t : Ty} (h : t.mkOK = true) (x y : t.den) : eqT t x y = some (eqK t x y) := by
  obtain ⟨r, h1, h2⟩ := eqT_mk h x y
  unfold eqK
  rw [h1]; rfl
/-- Keys' cells are what they are. -/
theorem key_cells : ∀ {t : Ty} {x : t.den} {c1 c2 : List Value}, t.mkOK = true → cellsRep w I tk t x c1 → cellsRep w I tk t x c2 → c1 = c2 := by
  intro t
  induction t with
  | pair a b iha ihb =>
    intro x c1 c2 h h1 h2
    simp only [Ty.mkOK, Bool.and_eq_true] at h
    obtain ⟨a1, b1, rfl, h3, h4⟩ := h1
    obtain ⟨a2, b2, rfl, h5, h6⟩ := h2
    rw [iha h.1 h3 h5, ihb h.2 h4 h6]
  | int k => intro x c1 c2 _ h1 h2; exact h1.trans h2.symm
  | bool => intro x c1 c2 _ h1 h2; exact h1.trans h2.symm
  | str => intro x c1 c2 _ h1 h2; exact h1.trans h2.symm
  | unit => intro x c1 c2 _ h1 h2; exact h1.trans h2.symm
  | eos u => intro x c1 c2 _ h1 h2; exact h1.trans h2.symm
  | _ => intro x c1 c2 h; cases h
theorem key_val {t : Ty} {x : t.den} {v1 v2 : Value} (h : t.mkOK = true) (h1 : valRep w I tk t x v1) (h2 : valRep w I tk t x v2) : v1 = v2 := by
  unfold valRep at h1 h2
  split at h1
  · rename_i ha
    rw [if_pos ha] at h2
    obtain ⟨a, rfl, h1⟩ := h1
    obtain ⟨b, rfl, h2⟩ := h2
    have := key_cells h h1 h2
    rw [Array.toList_inj] at this
    rw [this]
  · rename_i ha
    rw [if_neg ha] at h2
    have := key_cells h h1 h2
    simpa using this
/-- A cell of a key. -/
def keyCell : Value → Bool
  | .int _ _ => true
  | .bool _ => true
  | .string _ => true
  | _ => false
theorem key_cell : ∀ {t : Ty} {x : t.den} {c : List Value}, t.mkOK = true → cellsRep w I tk t x c → ∀ v ∈ c, keyCell v = true := by
  intro t
  induction t with
  | pair a b iha ihb =>
    intro x c h h1 v hv
    simp only [Ty.mkOK, Bool.and_eq_true] at h
    obtain ⟨a1, b1, rfl, h3, h4⟩ := h1
    rcases List.mem_append.1 hv with hv | hv
    · exact iha h.1 h3 v hv
    · exact ihb h.2 h4 v hv
  | int k => intro x c _ h1 v hv; have : c = _ := h1; rw [this] at hv; simp at hv; rw [hv]; rfl
  | bool => intro x c _ h1 v hv; have : c = _ := h1; rw [this] at hv; simp at hv; rw [hv]; rfl
  | str => intro x c _ h1 v hv; have : c = _ := h1; rw [this] at hv; simp at hv; rw [hv]; rfl
  | unit => intro x c _ h1 v hv; have : c = _ := h1; rw [this] at hv; simp at hv
  | eos u => intro x c _ h1 v hv; have : c = _ := h1; rw [this] at hv; simp at hv
  | _ => intro x c h; cases h
theorem same_cell (n : Nat) {v : Value} (h : keyCell v = true) : Instr.sameBits n v v = true := by
  cases v <;> first | cases h; done | (cases n <;> simp [Instr.sameBits, ba_beq])
theorem same_key {t : Ty} {x : t.den} {v : Value} (h : t.mkOK = true) (h1 : valRep w I tk t x v) : Instr.sameBits 10000 v v = true := by
  unfold valRep at h1
  split at h1
  · obtain ⟨a, rfl, h1⟩ := h1
    have hc := key_cell h h1
    have : ∀ d : Nat, Instr.sameBits (d + 1) (.agg a) (.agg a) = true := by
      intro d
      simp only [Instr.sameBits, beq_self_eq_true, Bool.true_and]
      refine List.all_eq_true.2 fun p hp => ?_
      obtain ⟨i, hi⟩ := List.mem_iff_getElem?.1 hp
      rw [List.getElem?_zip_eq_some] at hi
      obtain ⟨h2, h3⟩ := hi
      rw [h2] at h3
      simp only [Option.some.injEq] at h3
      rw [← h3]
      exact same_cell d (hc _ (List.mem_of_getElem? h2))
    exact this 9999
  · have := key_cell h h1 v (by simp)
    exact same_cell _ this
theorem keyStays {t : Ty} {x : t.den} {v : Value} (h : t.mkOK = true) (h1 : valRep w I tk t x v) : (Instr.keyThatStays v v).run P w' = .ok v w' := by
  unfold Instr.keyThatStays
  rw [same_key h h1]
  rfl

def ckF (em : Bool) (d : Nat) (cs : Array Value) (f : Field) (_ : PUnit) : Sem (ForInStep PUnit) :=
  if f.name ≠ "_" then (do let v ← part f.type cs f.offset; Instr.checkKey em d f.type v; pure (.yield PUnit.unit)) else pure (.yield PUnit.unit)
/-- A key is one. -/
theorem checkKey_run (em : Bool) : ∀ {t : Ty}, t.mkOK = true → (∀ (T : TypeId) (d : Nat) (v : Value) (x : t.den), TyAt P T t → t.lev ≤ d → valRep w I tk t x v → (Instr.checkKey em d T v).run P w = .ok () w) ∧
    (∀ (fs : List Field) (off d : Nat) (cs : Array Value) (x : t.den), FieldsAt P fs off t → t.lev ≤ d + 1 → cellsRep w I tk t x (cs.toList.drop off) →
      (forIn fs PUnit.unit (ckF em d cs) : Sem PUnit).run P w = .ok () w) := by
  intro t
  induction t with
  | int k =>
    intro _
    refine ⟨fun T d v x h hd h1 => ?_, fun fs off d cs x h => by cases h⟩
    cases d with
    | zero => simp [Ty.lev] at hd
    | succ d => rw [valRep_int] at h1; subst h1; simp [Instr.checkKey, run_underlying h.2]
  | bool =>
    intro _
    refine ⟨fun T d v x h hd h1 => ?_, fun fs off d cs x h => by cases h⟩
    cases d with
    | zero => simp [Ty.lev] at hd
    | succ d => rw [valRep_bool] at h1; subst h1; simp [Instr.checkKey, run_underlying h.2]
  | str =>
    intro _
    refine ⟨fun T d v x h hd h1 => ?_, fun fs off d cs x h => by cases h⟩
    cases d with
    | zero => simp [Ty.lev] at hd
    | succ d => rw [valRep_str] at h1; subst h1; simp [Instr.checkKey, run_underlying h.2]
  | eos u =>
    intro _
    refine ⟨fun T d v x h => h.elim, fun fs off d cs x h _ _ => ?_⟩
    have : fs = [] := h
    subst this
    simp
  | unit =>
    intro _
    refine ⟨fun T d v x h hd h1 => ?_, fun fs off d cs x h _ _ => ?_⟩
    · obtain ⟨_, hp, fs, hu, hfs⟩ := h
      unfold valRep at h1
      simp only [Ty.isAgg, if_true] at h1
      obtain ⟨as, rfl, h1⟩ := h1
      cases d with
      | zero => simp [Ty.lev] at hd
      | succ d =>
        have : fs = #[] := Array.toList_eq_nil_iff.1 hfs
        subst this
        simp [Instr.checkKey, run_underlying hu]
    · have : fs = [] := h
      subst this
      simp
  | pair a b iha ihb =>
    intro hk
    simp only [Ty.mkOK, Bool.and_eq_true] at hk
    have hf : ∀ (f : Field) (rs : List Field) (off d : Nat) (cs : Array Value) (x : (Ty.pair a b).den), f.offset = off → TyAt P f.type a → FieldsAt P rs (off + a.size) b → (Ty.pair a b).lev ≤ d + 1 →
        cellsRep w I tk (.pair a b) x (cs.toList.drop off) →
        (forIn (f :: rs) PUnit.unit (ckF em d cs) : Sem PUnit).run P w = .ok () w := by
      intro f rs off d cs x ho h1 h2 hd hx
      simp only [Ty.lev] at hd
      obtain ⟨c1, c2, e1, hx1, hx2⟩ := hx
      have l1 := hx1.length
      have t1 : (cs.toList.drop off).take a.size = c1 := by rw [e1, ← l1]; simp
      have t2 : cs.toList.drop (off + a.size) = c2 := by rw [← List.drop_drop, e1, ← l1]; simp
      obtain ⟨v1, hv1, hr1⟩ := part_run (t := a) (h1.frz.symm ▸ h1) cs off x.1 w (by rw [t1]; exact hx1)
      have e3 := (iha hk.1).1 f.type d v1 x.1 h1 (by omega) hr1
      have e4 := (ihb hk.2).2 rs (off + a.size) d cs x.2 h2 (by omega) (by rw [t2]; exact hx2)
      rw [List.forIn_cons, Sem.run_bind]
      have hone : (ckF em d cs f PUnit.unit).run P w = .ok (.yield ()) w := by
        unfold ckF
        by_cases hn : f.name ≠ "_"
        · simp only [if_pos hn, Sem.run_bind, ho, hv1, Result.andThen_ok, e3, Sem.run_pure]
        · simp only [if_neg hn, Sem.run_pure]
      rw [hone]
      exact e4
    refine ⟨fun T d v x h hd h1 => ?_, fun fs off d cs x h hd hx => ?_⟩
    · obtain ⟨_, hp, _, fs, hu, hnm, f, rs, hfs, ho, hF1, hF2⟩ := h
      unfold valRep at h1
      simp only [Ty.isAgg, if_true] at h1
      obtain ⟨as, rfl, h1⟩ := h1
      cases d with
      | zero => simp only [Ty.lev] at hd; omega
      | succ d =>
        have := hf f rs 0 d as x ho hF1 (by simpa [FieldsAt] using hF2) hd (by simpa using h1)
        rw [← hfs] at this
        simp only [Instr.checkKey, Sem.run_bind, run_underlying hu, Result.andThen_ok]
        rw [Array.forIn_toList] at this
        unfold ckF at this
        rw [this]
        rfl
    · obtain ⟨f, rs, rfl, ho, hF1, hF2⟩ := h
      exact hf f rs off d cs x ho hF1 hF2 hd hx
  | _ => intro h; cases h
end Go.Own

/- Operations, one by one: maps. -/
set_option linter.unusedVariables false
namespace Go.Own
variable {C : Cx} {P : Program} {E : Env} {w w' w2 : World} {I I' : Nat → Prop} {st sv : St} {tm : Array Value} {tk tk' : Toks} {ds : List Deferred} {o : Oper} {e : Ef}

/-- What is found, as the model says it. -/
def foundAt (es : List MapEntry) (i : Nat) (r : Option Nat) : Option (Nat × Value) := r.bind fun j => (es[j]?).map fun e => (i + j, e.val)
theorem foundAt_cons (e : MapEntry) (es : List MapEntry) (i : Nat) (r : Option Nat) : foundAt (e :: es) i (r.map (· + 1)) = foundAt es (i + 1) r := by
  unfold foundAt
  cases r with
  | none => rfl
  | some j =>
    simp only [Option.map_some, Option.bind_some, List.getElem?_cons_succ]
    congr 1
    funext x
    rw [show i + (j + 1) = i + 1 + j by omega]

section
variable {k v : Ty} {kt : TypeId} {key : k.den} {kv : Value}
theorem asking_run (hmk : k.mkOK = true) (hA : TyAt P kt k) (hlev : k.lev ≤ 10000) (hkv : valRep w I tk k key kv) : ∀ (es : List MapEntry) (l : List (k.den × v.den)) (i : Nat), es.length = l.length →
    (∀ (j : Nat) (e : MapEntry) (p : k.den × v.den), es[j]? = some e → l[j]? = some p → valRep w I tk k p.1 e.key) → (Instr.findAsking kt kv es i).run P w = .ok (foundAt es i (mapIx k v key l)) w := by
  intro es
  induction es with
  | nil =>
    intro l i hl _
    cases l with
    | nil => simp [Instr.findAsking, mapIx, foundAt]
    | cons => cases hl
  | cons e es ih =>
    intro l i hl hr
    cases l with
    | nil => cases hl
    | cons p l =>
      have hp := hr 0 e p rfl rfl
      have hq := eq_run.1 kt 10000 kv e.key key p.1 _ hA hlev hkv hp (eqK_some hmk key p.1)
      have ht := ih l (i + 1) (by simpa using hl) (fun j e' p' h1 h2 => hr (j + 1) e' p' (by simpa using h1) (by simpa using h2))
      simp only [Instr.findAsking, Op.equal, Op.maxDepth, Sem.run_bind, hq, Result.andThen_ok, mapIx]
      cases hb : eqK k key p.1 with
      | true => simp [foundAt]
      | false =>
        simp only [Bool.false_eq_true, if_false, cond_false]
        rw [ht, foundAt_cons]
theorem now_run {kind : TypeDesc} : ∀ (es : List MapEntry) (l : List (k.den × v.den)) (i : Nat), es.length = l.length →
    (∀ (j : Nat) (e : MapEntry) (p : k.den × v.den), es[j]? = some e → l[j]? = some p → Instr.sameNow kind kv e.key = some (eqK k key p.1)) → Instr.findNow kind kv es i = some (foundAt es i (mapIx k v key l)) := by
  intro es
  induction es with
  | nil =>
    intro l i hl _
    cases l with
    | nil => simp [Instr.findNow, mapIx, foundAt]
    | cons => cases hl
  | cons e es ih =>
    intro l i hl hr
    cases l with
    | nil => cases hl
    | cons p l =>
      have hp := hr 0 e p rfl rfl
      have ht := ih l (i + 1) (by simpa using hl) (fun j e' p' h1 h2 => hr (j + 1) e' p' (by simpa using h1) (by simpa using h2))
      simp only [Instr.findNow, hp, mapIx]
      cases hb : eqK k key p.1 with
      | true => simp [foundAt]
      | false => simp only [cond_false]; rw [ht, foundAt_cons]
theorem find_run (hmk : k.mkOK = true) (hA : TyAt P kt k) (hlev : k.lev ≤ 10000) (hkv : valRep w I tk k key kv) (es : List MapEntry) (l : List (k.den × v.den)) (hl : es.length = l.length)
    (hr : ∀ (j : Nat) (e : MapEntry) (p : k.den × v.den), es[j]? = some e → l[j]? = some p → valRep w I tk k p.1 e.key) : (Instr.findKey kt kv es).run P w = .ok (foundAt es 0 (mapIx k v key l)) w := by
  have simple : ∀ {kind : TypeDesc}, P.underlying kt = some kind → (∀ (j : Nat) (e : MapEntry) (p : k.den × v.den), es[j]? = some e → l[j]? = some p → Instr.sameNow kind kv e.key = some (eqK k key p.1)) → (Instr.findKey kt kv es).run P w = .ok (foundAt es 0 (mapIx k v key l)) w := by
    intro kind hu hs
    simp only [Instr.findKey, Sem.run_bind, run_underlying hu, Result.andThen_ok, now_run es l 0 hl hs, Sem.run_pure]
  have hard : ∀ {fs : Array Field}, P.underlying kt = some (.struct fs) → (Instr.findKey kt kv es).run P w = .ok (foundAt es 0 (mapIx k v key l)) w := by
    intro fs hu
    have ha := asking_run (v := v) hmk hA hlev hkv es l 0 hl hr
    simp only [Instr.findKey, Sem.run_bind, run_underlying hu, Result.andThen_ok]
    cases es with
    | nil =>
      cases l with
      | nil => simp [Instr.findNow, mapIx, foundAt]
      | cons => cases hl
    | cons e es =>
      have hn : Instr.sameNow (.struct fs) kv e.key = none := by cases kv <;> cases e.key <;> rfl
      simp only [Instr.findNow, hn]
      exact ha
  cases k <;> simp only [Ty.mkOK, Bool.false_eq_true] at hmk
  case int kk =>
    rw [valRep_int] at hkv; subst hkv
    refine simple hA.2 fun j e p h1 h2 => ?_
    have := hr j e p h1 h2
    rw [valRep_int] at this
    rw [this]
    simp only [Instr.sameNow, if_true, eqK, eqT, Option.getD_some]
    rfl
  case bool =>
    rw [valRep_bool] at hkv; subst hkv
    refine simple hA.2 fun j e p h1 h2 => ?_
    have := hr j e p h1 h2
    rw [valRep_bool] at this
    rw [this]
    rfl
  case str =>
    rw [valRep_str] at hkv; subst hkv
    refine simple hA.2 fun j e p h1 h2 => ?_
    have := hr j e p h1 h2
    rw [valRep_str] at this
    rw [this]
    rfl
  case unit => obtain ⟨_, _, fs, hu, _⟩ := hA; exact hard hu
  case eos u => exact hA.elim
  case pair a b => obtain ⟨_, _, _, fs, hu, _⟩ := hA; exact hard hu
theorem mapGet_none {l : List (k.den × v.den)} (h : mapIx k v key l = none) : mapGet k v key l = none := by unfold mapGet; rw [h]
theorem mapGet_some {l : List (k.den × v.den)} {i : Nat} (h : mapIx k v key l = some i) : mapGet k v key l = (l[i]?).map (·.2) := by unfold mapGet; rw [h]
theorem mapSet_none {x : v.den} {l : List (k.den × v.den)} (h : mapIx k v key l = none) : mapSet k v key x l = l ++ [(key, x)] := by unfold mapSet; rw [h]
theorem mapSet_some {x : v.den} {l : List (k.den × v.den)} {i : Nat} (h : mapIx k v key l = some i) : mapSet k v key x l = l.set i (key, x) := by unfold mapSet; rw [h]
theorem zero_rep {T : TypeId} {t : Ty} {z : Value} (hA : TyAt P T t) (hp : t.plain = true) (hz : (zeroValue T).run P w = .ok z w) : valRep w I tk t t.dflt z := by
  obtain ⟨i, z', h1, h2, h3⟩ := hA.base.zero
  have hag := hA.base.agg i z' h1 h2
  have e : z' = z := by
    have : (zeroValue T).run P w = .ok z' w := by simp [zeroValue, typeInfo, h1, h2]
    rw [this] at hz
    simpa using hz
  subst e
  have hc : cellsRep w I tk t t.dflt z'.cells.toList := by rw [h3]; exact zcells_plain hp
  unfold valRep
  split
  · rename_i ha
    rw [ha] at hag
    cases z' <;> first | (cases hag; done) | exact ⟨_, rfl, hc⟩
  · rename_i ha
    have ha' : t.isAgg = false := by simpa using ha
    rw [ha'] at hag
    cases z' <;> first | (cases hag; done) | exact hc
theorem mapIx_lt : ∀ {l : List (k.den × v.den)} {i : Nat}, mapIx k v key l = some i → ∃ p, l[i]? = some p ∧ eqK k key p.1 = true := by
  intro l
  induction l with
  | nil => intro i h; cases h
  | cons p l ih =>
    intro i h
    simp only [mapIx] at h
    cases hb : eqK k key p.1 with
    | true => rw [hb] at h; cases h; exact ⟨p, rfl, hb⟩
    | false =>
      rw [hb] at h
      obtain ⟨j, hj, rfl⟩ := Option.map_eq_some_iff.1 h
      exact ih hj
end

theorem op_makeMap {T : TypeId} (hE : EnvOK C.P E) (hV : View sv st) (h : Inv C st tm w I tk) (hd : ∀ d, o.dst = some d → d < st.sl.length) (ho : o.op = .makeMap T none) (hf : opP E o sv = some (true, e)) :
    OpGood C o ds (e.run o.dst st) tm w := by
  simp only [opP, ho] at hf
  split at hf
  · rename_i s0 k v d hT hod
    cases hq : (k.mkOK && k.plain && v.plain) with
    | false => rw [hq] at hf; cases hf
    | true =>
    rw [hq] at hf
    simp only [cond_true, Option.some.injEq, Prod.mk.injEq, true_and] at hf; subst hf
    simp only [Bool.and_eq_true] at hq
    have hdl := hd d hod
    have hr : BoxRep (w.alloc (.map #[] 0)) I tk ⟨some w.heap.size, 0, none, 0, 0, .map k v, T⟩ ⟨.map k v, []⟩ := by
      refine ⟨rfl, w.heap.size, rfl, #[], 0, ?_, hq.1.1, hq.1.2, hq.2, rfl, fun i e p he => by simp at he⟩
      simp only [World.alloc, Array.getElem?_push_size]
    have hi := h.newAt hdl (x := ⟨.map k v, []⟩) List.not_mem_nil (q := ⟨some w.heap.size, 0, none, 0, 0, .map k v, T⟩) rfl trivial hr
    have hs : SRep (w.alloc (.map #[] 0)) I (tk.upd d ⟨some w.heap.size, 0, none, 0, 0, .map k v, T⟩) (.mp d k v) (.map (some w.heap.size)) := ⟨_, w.heap.size, upd_same _ _ _, rfl, rfl, rfl⟩
    rw [hod]
    have := OpGood.of (C := C) (o := o) (ds := ds) (ps := newPs d ⟨.map k v, []⟩) (v := .mp d k v) (x := .map (some w.heap.size)) (w := w) (w' := w.alloc (.map #[] 0)) (by
      simp [execOp, ho, Instr.makeMap]) hi (fun d' hd' => by rw [runPs_len]; exact hd d' hd') hs
    rwa [hod] at this
  · cases hf

theorem lev_map {k v : Ty} {s : Nat} : k.lev ≤ (Ty.mp s k v).lev := by simp only [Ty.lev]; omega

theorem op_lookup {T : TypeId} {x i : Operand} {ok : Bool} (hE : EnvOK C.P E) (hV : View sv st) (h : Inv C st tm w I tk) (hd : ∀ d, o.dst = some d → d < st.sl.length) (ho : o.op = .lookup T x i ok) (hf : opP E o sv = some (true, e)) :
    OpGood C o ds (e.run o.dst st) tm w := by
  have hx := ev_rep (ds := ds) hV h x
  have hi := ev_rep (ds := ds) hV h i
  simp only [opP, ho] at hf
  split at hf
  · rename_i s k1 v1 k' key s2 k2 v2 e1 e2 hT
    rw [e1] at hx; rw [e2] at hi
    split at hf
    · rename_i k v l hb
      split at hf
      · rename_i hk
        subst hk
        split at hf
        · rename_i hkv
          obtain ⟨rfl, rfl⟩ := hkv
          obtain ⟨_, _, kt, vt, hu, hA1, hA2⟩ := hE.ty T _ hT
          have hA1' : TyAt C.P kt k2 := hA1
          have hA2' : TyAt C.P vt v2 := hA2
          have hlev : k2.lev ≤ 10000 := Nat.le_trans (Nat.le_trans lev_map (hE.lev T _ hT)) (by omega)
          obtain ⟨q, b, g1, g2, g3, e3⟩ := hx
          obtain ⟨q', g4, g5⟩ := h.boxes _ _ (hV.box _ _ hb)
          rw [g1] at g4; cases g4
          obtain ⟨_, b', g6, es, clock, g7, hmk, hkp, hvp, hlen, hrep⟩ := g5
          rw [g3] at g6; cases g6
          have hget := MapKept.run_getObj_map (P := C.P) g7
          have hck := (checkKey_run es.isEmpty hmk).1 kt 10000 _ key hA1' hlev hi.p
          have hfi := find_run hmk hA1' hlev hi.p es.toList l (by simpa using hlen) (fun j e p h1 h2 => (hrep j e p (by simpa using h1) h2).1)
          obtain ⟨z, hz, hzc⟩ := zero_run hA2' w
          have hzr : valRep w I tk v2 v2.dflt z := zero_rep hA2' hvp hz
          -- what comes
          have key2 : ∃ u bb, (Instr.lookup T (.map (some b)) (Act.eval ⟨tm, ds⟩ i) ok).run C.P w = .ok (if ok then .tuple #[u, .bool bb] else u) w ∧ valRep w I tk v2 ((mapGet k2 v2 key l).getD v2.dflt) u ∧ bb = (mapGet k2 v2 key l).isSome := by
            cases hix : mapIx k2 v2 key l with
            | none =>
              rw [mapGet_none hix]
              refine ⟨z, false, ?_, hzr, rfl⟩
              rw [hix] at hfi
              simp [Instr.lookup, run_underlying hu, hget, hck, hfi, foundAt, hz, Result.andThen]
            | some j =>
              obtain ⟨p, hp, _⟩ := mapIx_lt hix
              have hj := (List.getElem?_eq_some_iff.1 hp).1
              have hje : es[j]? = some es[j] := Array.getElem?_eq_getElem (by omega)
              rw [mapGet_some hix]
              refine ⟨es[j].val, true, ?_, by rw [hp]; exact (hrep j _ p hje hp).2, by rw [hp]; rfl⟩
              rw [hix] at hfi
              have : foundAt es.toList 0 (some j) = some (j, es[j].val) := by simp [foundAt, hje]
              rw [this] at hfi
              simp [Instr.lookup, run_underlying hu, hget, hck, hfi, Result.andThen]
          obtain ⟨u, bb, r1, r2, rfl⟩ := key2
          cases ok with
          | false =>
            simp only [cond_false, Option.some.injEq, Prod.mk.injEq, true_and] at hf; subst hf
            refine OpGood.v (x := u) h hd ?_ ⟨hvp, r2⟩
            simp only [execOp, ho, e3]
            rw [Sem.run_bind, r1]; rfl
          | true =>
            simp only [cond_true, Option.some.injEq, Prod.mk.injEq, true_and] at hf; subst hf
            refine OpGood.v (x := .tuple #[u, .bool (mapGet k2 v2 key l).isSome]) h hd ?_ ⟨_, rfl, rfl, fun j c y hc hy => ?_⟩
            · simp only [execOp, ho, e3]
              rw [Sem.run_bind, r1]; rfl
            · match j with
              | 0 => simp at hc hy; subst hc; subst hy; exact ⟨hvp, r2⟩
              | 1 => simp at hc hy; subst hc; subst hy; exact ⟨rfl, valRep_bool.2 rfl⟩
              | j + 2 => simp at hc
        · cases hf
      · cases hf
    · cases hf
  · cases hf

theorem op_mapUpdate {T : TypeId} {m i x : Operand} (hE : EnvOK C.P E) (hV : View sv st) (h : Inv C st tm w I tk) (ho : o.op = .mapUpdate T m i x) (hf : opP E o sv = some (true, e)) :
    OpGood C o ds (e.run o.dst st) tm w := by
  have hm := ev_rep (ds := ds) hV h m
  have hi := ev_rep (ds := ds) hV h i
  have hx := ev_rep (ds := ds) hV h x
  simp only [opP, ho] at hf
  split at hf
  · rename_i s k1 v1 k' key s2 k2 u e1 e2 hT hod
    rw [e1] at hm; rw [e2] at hi
    split at hf
    · rename_i fs v' y hdf
      split at hf
      · rename_i k v l hb
        split at hf
        · rename_i hk
          subst hk
          split at hf
          · rename_i hv'
            subst hv'
            cases hq : (decide (k2 = k') && !(fs.flatMap Pm.fs).any (Nat.beq s)) with
            | false => rw [hq] at hf; cases hf
            | true =>
            rw [hq] at hf
            simp only [cond_true, Option.some.injEq, Prod.mk.injEq, true_and] at hf; subst hf
            simp only [Bool.and_eq_true, decide_eq_true_eq, Bool.not_eq_true', List.any_eq_false] at hq
            obtain ⟨rfl, hns⟩ := hq
            have hns' : s ∉ fs.flatMap Pm.fs := fun hm => hns s hm (beq_iff.2 rfl)
            obtain ⟨_, _, kt, vt, hu, hA1, hA2⟩ := hE.ty T _ hT
            have hA1' : TyAt C.P kt k2 := hA1
            have hlev : k2.lev ≤ 10000 := Nat.le_trans (Nat.le_trans lev_map (hE.lev T _ hT)) (by omega)
            obtain ⟨I', tk', hF, hyp, hyr⟩ := dataF_sound hV h hx hdf
            obtain ⟨q, b, g1, g2, g3, e3⟩ := hm
            have g1' : tk' s = some q := (hF.tok s hns').trans g1
            have hb' := hF.view.box _ _ hb
            obtain ⟨q', g4, g5⟩ := hF.inv.boxes _ _ hb'
            rw [g1'] at g4; cases g4
            obtain ⟨g0, b', g6, es, clock, g7, hmk, hkp, hvp, hlen, hrep⟩ := g5
            rw [g3] at g6; cases g6
            have hget := MapKept.run_getObj_map (P := C.P) g7
            have hset := fun o => MapKept.run_setObj_map (P := C.P) o g7
            have hi' : valRep w I' tk' k2 key (Act.eval ⟨tm, ds⟩ i) := by
              have := hi.p.plain (tk' := tk') hi.1
              exact this.mono hF.mono (fun _ _ => rfl) (Toks.le.refl _)
            have hck := (checkKey_run false hmk).1 kt 10000 _ key hA1' hlev hi'
            have hfi := find_run (v := v') hmk hA1' hlev hi' es.toList l (by simpa using hlen) (fun j e p h1 h2 => (hrep j e p (by simpa using h1) h2).1)
            have hW : ∀ ob : Obj, Wrote b w { w with heap := w.heap.setIfInBounds b ob } := fun ob => ⟨fun r hr => by simp [Ne.symm hr], by simp, rfl, rfl, rfl⟩
            have hbI : ¬ I' b := hF.inv.tokI s q b g1' g3
            have hlt : b < w.heap.size := hF.inv.tokLt s q b g1' g3
            have key2 : ∃ es' clock', (Instr.mapUpdate T (.map (some b)) (Act.eval ⟨tm, ds⟩ i) (Act.eval ⟨tm, ds⟩ x)).run C.P w = .ok () { w with heap := w.heap.setIfInBounds b (.map es' clock') } ∧ es'.size = (mapSet k2 v' key y l).length ∧
                ∀ (j : Nat) (e : MapEntry) (p : k2.den × v'.den), es'[j]? = some e → (mapSet k2 v' key y l)[j]? = some p → valRep w I' tk' k2 p.1 e.key ∧ valRep w I' tk' v' p.2 e.val := by
              cases hix : mapIx k2 v' key l with
              | none =>
                rw [mapSet_none hix]
                rw [hix] at hfi
                refine ⟨es.push ⟨Act.eval ⟨tm, ds⟩ i, Act.eval ⟨tm, ds⟩ x, clock⟩, clock + 1, ?_, by simp [hlen], fun j e p h1 h2 => ?_⟩
                · simp [Instr.mapUpdate, run_underlying hu, hget, hck, hfi, foundAt, hset, Result.andThen]
                · rw [Array.getElem?_push] at h1
                  split at h1
                  · rename_i hj
                    cases h1
                    rw [List.getElem?_append_right (by omega), hj, hlen] at h2
                    simp only [Nat.sub_self, List.getElem?_cons_zero, Option.some.injEq] at h2
                    subst h2
                    exact ⟨hi', hyr⟩
                  · rename_i hj
                    have hjl := (Array.getElem?_eq_some_iff.1 h1).1
                    rw [List.getElem?_append_left (by omega)] at h2
                    exact hrep j e p h1 h2
              | some j0 =>
                rw [mapSet_some hix]
                obtain ⟨p0, hp0, hek⟩ := mapIx_lt hix
                have hke := (eqK_iff hmk key p0.1).1 hek
                have hj := (List.getElem?_eq_some_iff.1 hp0).1
                have hje : es[j0]? = some es[j0] := Array.getElem?_eq_getElem (by omega)
                have hold := (hrep j0 _ p0 hje hp0).1
                rw [← hke] at hold
                have hsame := key_val hmk hold hi'
                rw [hix] at hfi
                have hfo : foundAt es.toList 0 (some j0) = some (j0, es[j0].val) := by simp [foundAt, hje]
                rw [hfo] at hfi
                have hst := keyStays (P := C.P) (w' := w) hmk hi'
                refine ⟨es.modify j0 fun e => { e with key := Act.eval ⟨tm, ds⟩ i, val := Act.eval ⟨tm, ds⟩ x }, clock, ?_, by simp [hlen], fun j e p h1 h2 => ?_⟩
                · simp [Instr.mapUpdate, run_underlying hu, hget, hck, hfi, hje, hsame, hst, hset, Result.andThen]
                · rw [Array.getElem?_modify] at h1
                  rw [List.getElem?_set] at h2
                  split at h1
                  · rename_i hjj
                    subst hjj
                    rw [if_pos rfl, if_pos hj] at h2
                    simp only [Option.some.injEq] at h2
                    subst h2
                    rw [hje] at h1
                    simp only [Option.map_some, Option.some.injEq] at h1
                    subst h1
                    exact ⟨hi', hyr⟩
                  · rename_i hjj
                    rw [if_neg hjj] at h2
                    exact hrep j e p h1 h2
            obtain ⟨es', clock', r1, r2, r3⟩ := key2
            refine ⟨undef, { w with heap := w.heap.setIfInBounds b (.map es' clock') }, I', tk', .inr ⟨?_, rfl⟩, ?_⟩
            · simp only [execOp, ho, e3]
              rw [Sem.run_bind, r1]; rfl
            · simp only [Ef.run, runPs_append, hod, putT]
              refine hF.inv.writeBox hb' g1' g3 (hW _) ⟨g0, b, g3, es', clock', by simp [hlt], hmk, hkp, hvp, r2, fun j e p h1 h2 => ?_⟩
              have hm : ∀ c, I' c → ({ w with heap := w.heap.setIfInBounds b (.map es' clock') } : World).heap[c]? = w.heap[c]? := fun c hc => (hW _).other c (by rintro rfl; exact hbI hc)
              exact ⟨(r3 j e p h1 h2).1.mono (fun _ hb => hb) hm (Toks.le.refl _), (r3 j e p h1 h2).2.mono (fun _ hb => hb) hm (Toks.le.refl _)⟩
          · cases hf
        · cases hf
      · cases hf
    · cases hf
  · cases hf
end Go.Own

/- Operations, one by one: the built-in functions; all operations. -/
set_option linter.unusedVariables false
namespace Go.Own
variable {C : Cx} {P : Program} {E : Env} {w w' w2 : World} {I I' : Nat → Prop} {st sv : St} {tm : Array Value} {tk tk' : Toks} {ds : List Deferred} {o : Oper} {e : Ef}

theorem list_map1 {α β : Type} {f : α → β} {l : List α} {x : β} (h : l.map f = [x]) : ∃ a, l = [a] ∧ f a = x := by
  match l, h with
  | [a], h => exact ⟨a, rfl, by simpa using h⟩
theorem list_map2 {α β : Type} {f : α → β} {l : List α} {x y : β} (h : l.map f = [x, y]) : ∃ a b, l = [a, b] ∧ f a = x ∧ f b = y := by
  match l, h with
  | [a, b], h => exact ⟨a, b, rfl, by simpa using h⟩
theorem list_mapc {α β : Type} {f : α → β} {l : List α} {x : β} {r : List β} (h : l.map f = x :: r) : ∃ a q, l = a :: q ∧ f a = x ∧ q.map f = r := by
  match l, h with
  | a :: q, h => simp only [List.map_cons, List.cons.injEq] at h; exact ⟨a, q, rfl, h⟩

theorem call_builtin {c : Call} {b : Builtin} {ρ : Operand → Value} (ho : o.op = .call c) (hc : c.callee = .builtin b) :
    (execOp ρ o).run P w = (builtin b c.argTypes o.type (c.args.map fun | .const _ => true | _ => false) (c.args.map ρ)).run P w := by
  simp only [execOp, ho, resolve, hc, Sem.run_bind, Sem.run_pure, Result.andThen_ok, invoke]
  rfl

theorem op_builtin {c : Call} {b : Builtin} (hE : EnvOK C.P E) (hV : View sv st) (h : Inv C st tm w I tk) (hd : ∀ d, o.dst = some d → d < st.sl.length) (ho : o.op = .call c) (hc : c.callee = .builtin b) (hf : opP E o sv = some (true, e)) :
    OpGood C o ds (e.run o.dst st) tm w := by
  have hrun := fun ρ => call_builtin (P := C.P) (w := w) (ρ := ρ) ho hc
  simp only [opP, ho, hc] at hf
  have hargs : c.args.map (Act.eval ⟨tm, ds⟩) = (c.args.toList.map (Act.eval ⟨tm, ds⟩)).toArray := by apply Array.ext'; simp only [Array.toList_map]
  have two : ∀ {T T2 : TypeId}, c.argTypes.toList = [T, T2] → c.argTypes = #[T, T2] := fun hT => by
    have := congrArg List.toArray hT
    simpa using this
  have maxes : ∀ (mx : Bool) {a : Operand} {q : List Operand} {d : DV}, maxS mx (ev sv a) (q.map (ev sv)) = some d → ∃ u, ((q.map (Act.eval ⟨tm, ds⟩)).foldlM (bif mx then Builtin.max2 else Builtin.min2) (Act.eval ⟨tm, ds⟩ a)).run C.P w = .ok u w ∧ SRep w I tk (.p d) u := by
    intro mx a q d hm
    exact maxS_run (P := C.P) mx _ _ _ (q.map (Act.eval ⟨tm, ds⟩)) d hm (ev_rep (ds := ds) hV h a) (by simp) (fun k s v h1 h2 => by
      rw [List.getElem?_map] at h1 h2
      obtain ⟨z, hz, rfl⟩ := Option.map_eq_some_iff.1 h1
      rw [hz] at h2
      simp only [Option.map_some, Option.some.injEq] at h2; subst h2
      exact ev_rep hV h z)
  unfold builtinP at hf
  split at hf
  · -- len
    rename_i T Ts v hT hv
    obtain ⟨a, ha, rfl⟩ := list_map1 hv
    split at hf
    · rename_i d hl
      simp only [Option.some.injEq, Prod.mk.injEq, true_and] at hf; subst hf
      obtain ⟨u, hu, hr⟩ := len_sound (R := o.type) (Ts := Ts) hE hV h (ev_rep (ds := ds) hV h a) hl
      refine OpGood.v h hd (x := u) ?_ hr
      rw [hrun, hargs, ha]
      have : c.argTypes = (T :: Ts).toArray := by rw [← hT]
      simp only [builtin, this, List.map_cons, List.map_nil]
      rw [Sem.run_bind]
      rw [show (Builtin.len_ (T :: Ts).toArray o.type [Act.eval ⟨tm, ds⟩ a].toArray).run C.P w = .ok u w from hu]
      rfl
    · cases hf
  · -- append
    rename_i T T2 x y hT hv
    obtain ⟨a, a2, ha, rfl, rfl⟩ := list_map2 hv
    have key : appendP E o.dst T (ev sv a) (ev sv a2) sv = some (true, e) → ((∃ t, E.T T2 = some (.sl t)) ∨ E.T T2 = some .str) → OpGood C o ds (e.run o.dst st) tm w := by
      intro hf hT2
      obtain ⟨v, w', tk', d, t, hev, hod, h1, h2, h3⟩ := append_good (ty := o.type) hE hV h hd (ev_rep (ds := ds) hV h a) (ev_rep (ds := ds) hV h a2) hT2 hf
      obtain ⟨ps, ev'⟩ := e
      simp only at hev
      subst hev
      refine OpGood.of (x := v) (w' := w') ?_ h2 (fun d' hd' => by rw [runPs_len]; exact hd d' hd') h3
      rw [hrun, hargs, ha]
      simp only [builtin, two hT, List.map_cons, List.map_nil]
      rw [Sem.run_bind]
      rw [show (Builtin.append_ #[T, T2] o.type [Act.eval ⟨tm, ds⟩ a, Act.eval ⟨tm, ds⟩ a2].toArray).run C.P w = .ok v w' from h1]
      rfl
    split at hf
    · rename_i t e; exact key hf (.inl ⟨t, e⟩)
    · rename_i e; exact key hf (.inr e)
    · cases hf
  · -- copy
    rename_i T T2 x y hT hv
    obtain ⟨a, a2, ha, rfl, rfl⟩ := list_map2 hv
    split at hf
    · rename_i u ys hm
      cases hq : (E.isT T (.sl u) && u.plain) with
      | false => rw [hq] at hf; cases hf
      | true =>
      rw [hq] at hf
      simp only [cond_true] at hf
      simp only [Bool.and_eq_true] at hq
      split at hf
      · rename_i n ps hov
        simp only [Option.some.injEq, Prod.mk.injEq, true_and] at hf; subst hf
        obtain ⟨w', h1, h2⟩ := copy_good (T2 := T2) (ty := o.type) hE hV h (ev_rep (ds := ds) hV h a) (ev_rep (ds := ds) hV h a2) hq.1 hq.2 hm hov
        refine OpGood.of (x := goInt ((min n ys.length : Nat) : Int)) (w' := w') ?_ h2 (fun d' hd' => by rw [runPs_len]; exact hd d' hd') (pRep_int.2 rfl)
        rw [hrun, hargs, ha]
        simp only [builtin, two hT, List.map_cons, List.map_nil]
        rw [Sem.run_bind]
        rw [show (Builtin.copy_ #[T, T2] o.type [Act.eval ⟨tm, ds⟩ a, Act.eval ⟨tm, ds⟩ a2].toArray).run C.P w = _ from h1]
        rfl
      · cases hf
    · cases hf
  · -- clear
    rename_i T x hT hv
    obtain ⟨a, ha, rfl⟩ := list_map1 hv
    split at hf
    · rename_i u hTu hod
      cases hq : u.plain with
      | false => rw [hq] at hf; cases hf
      | true =>
      rw [hq] at hf
      simp only [cond_true] at hf
      split at hf
      · rename_i n ps hov
        simp only [Option.some.injEq, Prod.mk.injEq, true_and] at hf; subst hf
        obtain ⟨w', h1, h2⟩ := clear_good (ty := o.type) hE hV h (ev_rep (ds := ds) hV h a) hTu hq hov
        refine ⟨.tuple #[], w', I, tk, .inl ?_, by rw [hod]; exact h2⟩
        rw [hrun, hargs, ha]
        have : c.argTypes = #[T] := by
          have := congrArg List.toArray hT
          simpa using this
        simp only [builtin, this, List.map_cons, List.map_nil]
        rw [Sem.run_bind]
        rw [show (Builtin.clear_ #[T] o.type [Act.eval ⟨tm, ds⟩ a].toArray).run C.P w = _ from h1]
        rfl
      · cases hf
    · cases hf
  · -- unsafe.SliceData
    rename_i x hv
    obtain ⟨a, ha, rfl⟩ := list_map1 hv
    have hx := ev_rep (ds := ds) hV h a
    have fin : ∀ {p : Option Addr} {s : SV}, (Builtin.unsafeSliceData_ c.argTypes o.type #[Act.eval ⟨tm, ds⟩ a]).run C.P w = .ok (.pointer p) w → SRep w I tk s (.pointer p) → OpGood C o ds (Ef.run o.dst ⟨[], some s⟩ st) tm w := by
      intro p s h1 h2
      refine OpGood.v (x := .pointer p) h hd ?_ h2
      rw [hrun, hargs, ha]
      simp only [builtin, List.map_cons, List.map_nil]
      rw [Sem.run_bind]
      rw [show (Builtin.unsafeSliceData_ c.argTypes o.type [Act.eval ⟨tm, ds⟩ a].toArray).run C.P w = _ from h1]
      rfl
    split at hf
    · rename_i s t e1
      rw [e1] at hx
      split at hf
      · rename_i t' l hb
        simp only [Option.some.injEq, Prod.mk.injEq] at hf
        obtain ⟨hc1, rfl⟩ := hf
        obtain ⟨q, g1, g2, e2⟩ := hx
        obtain ⟨q', g3, g4⟩ := h.boxes _ _ (hV.box _ _ hb)
        rw [g1] at g3; cases g3
        obtain ⟨k1, k2, k3, k4, k5, k6⟩ := g4
        have e3 : Act.eval ⟨tm, ds⟩ a = .slice q.ad q.len q.cap := e2
        cases hl : l.1 with
        | true =>
          have hz := k5.1 hl
          refine fin (p := none) ?_ (SRep.of1 ⟨q, g1, g2, none, rfl, fun _ => hz.symm, fun _ => rfl⟩)
          rw [e3, hz]
          exact Lib.run_unsafeSliceData_nil w _ _ _ _
        | false =>
          rw [hl] at hc1
          simp only [Bool.false_or, Bool.not_eq_true', List.isEmpty_eq_false_iff] at hc1
          have hpos : 0 < l.2.length := List.length_pos_iff.2 hc1
          rcases k6 with ⟨_, k6⟩ | ⟨b, k6, k7, _⟩
          · omega
          · refine fin (p := q.ad) ?_ (SRep.of1 ⟨q, g1, g2, q.ad, rfl, fun _ => rfl, fun e => e⟩)
            rw [e3, k7]
            exact Lib.run_unsafeSliceData_row w _ _ _ _ _ (by omega)
      · cases hf
    · rename_i e1
      rw [e1] at hx
      have e2 : Act.eval ⟨tm, ds⟩ a = .slice none 0 0 := hx
      simp only [Option.some.injEq, Prod.mk.injEq, true_and] at hf; subst hf
      refine fin (p := none) ?_ rfl
      rw [e2]
      exact Lib.run_unsafeSliceData_nil w _ _ _ _
    · cases hf
  · -- unsafe.String
    rename_i pt it x n hT hv
    obtain ⟨a, a2, ha, rfl, e2⟩ := list_map2 hv
    have hx := ev_rep (ds := ds) hV h a
    have hn := ev_rep (ds := ds) hV h a2
    rw [e2] at hn
    have en := pRep_int.1 hn
    split at hf
    · rename_i hTp
      split at hf
      · rename_i s e1
        rw [e1] at hx
        split at hf
        · rename_i l hb
          simp only [Option.some.injEq, Prod.mk.injEq, Bool.and_eq_true, decide_eq_true_eq] at hf
          obtain ⟨⟨hnl, h63⟩, rfl⟩ := hf
          obtain ⟨w', tk', h1, h2⟩ := string_good (it := it) (ty := o.type) hE hV h hTp hx hb h63
          refine OpGood.of (x := .string (bytesOf l.2)) (w' := w') ?_ h2 (fun d' hd' => by rw [runPs_len]; exact hd d' hd') (pRep_str.2 rfl)
          rw [hrun, hargs, ha]
          simp only [builtin, two hT, List.map_cons, List.map_nil, en, hnl]
          rw [Sem.run_bind]
          rw [show (Builtin.unsafeString_ #[pt, it] o.type [Act.eval ⟨tm, ds⟩ a, Value.int .i64 (l.2.length : Int)].toArray).run C.P w = _ from h1]
          rfl
        · cases hf
      · rename_i e1
        rw [e1] at hx
        simp only [Option.some.injEq, Prod.mk.injEq, decide_eq_true_eq] at hf
        obtain ⟨hn0, rfl⟩ := hf
        have ex : Act.eval ⟨tm, ds⟩ a = .pointer none := hx
        refine OpGood.v (x := .string ByteArray.empty) h hd ?_ (pRep_str.2 rfl)
        rw [hrun, hargs, ha]
        have := Lib.run_unsafeString_none (P := C.P) w pt it o.type none
        simp only [builtin, two hT, List.map_cons, List.map_nil, en, hn0, ex]
        rw [Sem.run_bind]
        rw [show (Builtin.unsafeString_ #[pt, it] o.type [Value.pointer none, Value.int .i64 0].toArray).run C.P w = _ from this]
        rfl
      · cases hf
    · cases hf
  · -- max
    rename_i v r hv
    obtain ⟨a, q, ha, rfl, rfl⟩ := list_mapc hv
    split at hf
    · rename_i d hm
      simp only [Option.some.injEq, Prod.mk.injEq, true_and] at hf; subst hf
      obtain ⟨u, hu, hr⟩ := maxes true hm
      refine OpGood.v h hd (x := u) ?_ hr
      rw [hrun, hargs, ha]
      simp only [builtin, Builtin.max_, List.map_cons]
      rw [Sem.run_bind]
      simp only [cond_true] at hu
      rw [hu]; rfl
    · cases hf
  · -- min
    rename_i v r hv
    obtain ⟨a, q, ha, rfl, rfl⟩ := list_mapc hv
    split at hf
    · rename_i d hm
      simp only [Option.some.injEq, Prod.mk.injEq, true_and] at hf; subst hf
      obtain ⟨u, hu, hr⟩ := maxes false hm
      refine OpGood.v h hd (x := u) ?_ hr
      rw [hrun, hargs, ha]
      simp only [builtin, Builtin.min_, List.map_cons]
      rw [Sem.run_bind]
      simp only [cond_false] at hu
      rw [hu]; rfl
    · cases hf
  · cases hf

/-- All operations that are no calls of functions. -/
theorem opP_sound (hE : EnvOK C.P E) (hV : View sv st) (h : Inv C st tm w I tk) (hd : ∀ d, o.dst = some d → d < st.sl.length) (hf : opP E o sv = some (true, e)) : OpGood C o ds (e.run o.dst st) tm w := by
  cases ho : o.op with
  | move x => exact op_move hV h hd ho hf
  | assign x => exact op_assign hV h hd ho hf
  | pick c a b => exact op_pick hV h hd ho hf
  | alloc T => exact op_alloc hE hV h hd ho hf
  | box T x => exact op_box hE hV h hd ho hf
  | build T parts => exact op_build hE hV h hd ho hf
  | buildSlice T n parts => exact op_buildSlice hE hV h hd ho hf
  | load T a => exact op_load hE hV h hd ho hf
  | nilCheck x => exact op_nilCheck hV h hd ho hf
  | binOp op T x y T' => exact op_binOp hE hV h hd ho hf
  | unOp op T x => exact op_unOp hV h hd ho hf
  | convert S T x => exact op_convert hE hV h hd ho hf
  | sliceToArrayPointer T x => exact op_slArr hE hV h hd ho hf
  | makeSlice T l c => exact op_makeSlice hE hV h hd ho hf
  | makeMap T r =>
    cases r with
    | none => exact op_makeMap hE hV h hd ho hf
    | some r => simp only [opP, ho] at hf; cases hf
  | lookup T x i ok => exact op_lookup hE hV h hd ho hf
  | mapUpdate T m i x => exact op_mapUpdate hE hV h ho hf
  | fieldAddr T x f => exact op_fieldAddr hE hV h hd ho hf
  | field T x f => exact op_field hE hV h hd ho hf
  | indexAddr T x i => exact op_indexAddr hE hV h hd ho hf
  | index T x i => exact op_index hE hV h hd ho hf
  | makeFunc fn first caps =>
    cases fn with
    | func f => exact op_makeFunc hV h hd ho hf
    | _ => simp only [opP, ho] at hf; cases hf
  | slice T x lo hi mx =>
    cases mx with
    | none => exact op_slice hE hV h hd ho hf
    | some m => simp only [opP, ho] at hf; cases hf
  | extract t j =>
    cases t with
    | tmp i => exact op_extract hV h hd ho hf
    | _ => simp only [opP, ho] at hf; cases hf
  | call c =>
    cases hc : c.callee with
    | builtin b => exact op_builtin hE hV h hd ho hc hf
    | _ => simp only [opP, ho, hc] at hf; cases hf
  | store T a x =>
    cases hod : o.dst with
    | none => rw [← hod]; exact op_store hE hV h ho hf
    | some d => simp only [opP, ho, hod] at hf; cases hf
  | _ => simp only [opP, ho] at hf; cases hf
end Go.Own
