/- What is proved: the evaluator of the translated code, and that it is sound, part 5. Conditions: those that each theorem names. -/
import Derived.Test.YtipheoipbjakfaaW4
import Derived.Lib.Builder
set_option linter.unusedVariables false
set_option linter.unusedSimpArgs false
/- What a frozen box gives: slices. -/
namespace Go.Own
variable {C : Cx} {w w' : World} {I I' : Nat → Prop} {st : St} {tm : Array Value} {tk tk' : Toks}

theorem addr_add (b o j : Nat) : (⟨b, o, none⟩ : Addr).add j = ⟨b, o + j, none⟩ := by unfold Addr.add; split <;> simp_all

/-- The whole slice of a frozen own array. -/
theorem frz_sl {q : Tk} {d : DV} {x : (t : Ty) × List t.den} {t : Ty} (hd : BoxRep w I tk q d) (hI : ∀ b, I b → I' b) (hb : ∀ b, q.blk = some b → I' b)
    (hq : q.ty = .dyn t) (hx : elemsOf d = some x) : x.1 = t ∧ x.1.plain = true ∧ cellsRep w I' tk' (.sl x.1) x.2 [q.hdr] := by
  obtain ⟨dt, dx⟩ := d
  cases dt <;> simp only [elemsOf, reduceCtorEq] at hx
  · obtain ⟨h1, _⟩ := (BoxRep.str rfl).1 hd
    rw [hq] at h1; cases h1
  · rename_i t0
    cases hx
    obtain ⟨h1, hp, h2, h3, h4, h5⟩ := hd
    rw [hq] at h1; cases h1
    refine ⟨rfl, hp, q.ad, q.cap, by unfold Tk.hdr; rw [h2], h3, ?_⟩
    rcases h5 with ⟨_, h5⟩ | ⟨b, e1, e2, cs, e3, e4, e5⟩
    · left
      have h0 : dx.2.length = 0 := by have : dx.2.length ≤ q.cap := h3; omega
      exact List.length_eq_zero_iff.1 h0
    · right
      refine ⟨hp, b, q.off, e2, hb b e1, fun i y hy => ?_⟩
      obtain ⟨c, hc, hv⟩ := e5 i y hy
      refine ⟨c, (hc.plain hp).mono hI (fun _ _ => rfl) (Toks.le.refl _), fun j v hj => ?_⟩
      rw [e3.cell]
      exact hv j v hj

theorem part_get {α : Type} (l : List α) (lo n i : Nat) (y : α) (h : ((l.drop lo).take n)[i]? = some y) : i < n ∧ l[lo + i]? = some y := by
  rw [List.getElem?_take] at h
  split at h
  · rename_i hi
    rw [List.getElem?_drop] at h
    exact ⟨hi, h⟩
  · cases h

/-- A part of an array of a frozen box. -/
theorem frz_part {q : Tk} {d : DV} {x : (t : Ty) × List t.den} {t : Ty} {pa : Path} {lo n : Nat} {v : Value} (hd : BoxRep w I tk q d) (hok : d.frzOK = true) (hI : ∀ b, I b → I' b) (hb : ∀ b, q.blk = some b → I' b)
    (hv : vsRep q t pa lo n v) (hx : (getP d.1 d.2 pa).bind elemsOf = some x) : x.1 = t ∧ x.1.plain = true ∧ cellsRep w I' tk' (.sl x.1) ((x.2.drop lo).take n) [v] := by
  obtain ⟨y, hg, hy⟩ := Option.bind_eq_some_iff.1 hx
  rcases hv with ⟨rfl, hq, hl, ad', rfl, ha, hn⟩ | ⟨b, off, m, hat, hin, hl, ad', rfl, ha⟩
  · have : y = d := by
      have : some d = some y := by rw [← hg]; obtain ⟨dt, dx⟩ := d; cases dt <;> rfl
      exact (Option.some.inj this).symm
    subst this
    obtain ⟨e, hp, ad, cap, hc1, hc2, hc3⟩ := frz_sl (tk' := tk') hd hI hb hq hy
    obtain ⟨rfl, hlen, rfl⟩ : ad = q.ad ∧ q.len = x.2.length ∧ cap = q.cap := by
      simp only [Tk.hdr, List.cons.injEq, Value.slice.injEq, and_true] at hc1
      exact ⟨hc1.1.symm, hc1.2.1, hc1.2.2.symm⟩
    refine ⟨e, hp, ad', q.cap - lo, ?_, ?_, ?_⟩
    · have : ((x.2.drop lo).take n).length = n := by simp; omega
      rw [this]
    · have : ((x.2.drop lo).take n).length = n := by simp; omega
      omega
    · by_cases hn0 : n = 0
      · left; rw [hn0, List.take_zero]
      · rcases hc3 with hc3 | ⟨_, b, o, e1, e2, e3⟩
        · rw [hc3] at hlen; simp at hlen; omega
        · right
          refine ⟨hp, b, o + lo * x.1.size, ?_, e2, fun i y hy => ?_⟩
          · rw [ha (by omega), e1, e]; simp [addr_add]
          · obtain ⟨hi, hy⟩ := part_get _ _ _ _ _ hy
            obtain ⟨c, f1, f2⟩ := e3 _ _ hy
            refine ⟨c, f1, ?_⟩
            rw [Nat.add_assoc, ← Nat.add_mul]; exact f2
  · obtain ⟨yt, yx⟩ := y
    cases yt <;> simp only [elemsOf, reduceCtorEq] at hy
    · rename_i m0 t0
      cases hy
      have hpl : (Ty.arr m0 t0).plain = true := by
        obtain ⟨dt, dx⟩ := d
        unfold DV.frzOK at hok
        cases dt <;> first | exact getP_plain (d := ⟨.arr m0 t0, yx⟩) hok hg | skip
        cases pa with
        | nil => simp only [getP, Option.some.injEq] at hg; cases hg
        | cons s pa =>
          cases s <;> simp only [getP, reduceCtorEq] at hg
          · exact getP_plain (d := ⟨.arr m0 t0, yx⟩) hok hg
          · exact getP_plain (t := .arr _ _) (d := ⟨.arr m0 t0, yx⟩) hok hg
      obtain ⟨e, _, b', o', c, hc1, hc2, hc3, hc4⟩ := frz_ref (tk' := tk') (x := ⟨.arr m0 t0, yx⟩) hd hok hI hb hg hpl hat hin
      simp only [Ty.arr.injEq] at e
      obtain ⟨rfl, rfl⟩ := e
      simp only [List.cons.injEq, Value.pointer.injEq, Option.some.injEq, Addr.mk.injEq, and_true] at hc1
      obtain ⟨rfl, rfl⟩ := hc1
      obtain ⟨f1, f2, f3⟩ := hc3
      have f1' : yx.length = m0 := f1
      have hlen : ((yx.drop lo).take n).length = n := by simp; omega
      refine ⟨rfl, hpl, some ad', m0 - lo, by rw [hlen], by rw [hlen]; omega, ?_⟩
      by_cases hn0 : n = 0
      · left; rw [hn0, List.take_zero]
      · right
        refine ⟨hpl, b, off + lo * t0.size, by rw [ha (by omega)], hc2, fun i y hy => ?_⟩
        obtain ⟨hi, hy⟩ := part_get _ _ _ _ _ hy
        refine ⟨_, f3 _ _ hy, fun j v hj => ?_⟩
        rw [seg_get] at hj
        split at hj
        · rw [show off + lo * t0.size + i * t0.size + j = off + ((lo + i) * t0.size + j) by rw [Nat.add_mul]; omega]
          exact hc4 _ _ hj
        · cases hj
    · cases hy
      exfalso
      obtain ⟨dt, dx⟩ := d
      unfold DV.frzOK at hok
      have no : ∀ {t : Ty} {x : t.den} {pa : Path} {u : Ty} {y : (Ty.dyn u).den}, t.plain = true → getP t x pa = some ⟨.dyn u, y⟩ → False := fun hp hg => by
        have := getP_plain hp hg; cases this
      cases dt <;> first | exact no hok hg | skip
      cases pa with
      | nil =>
        unfold Tk.at at hat
        obtain ⟨h1, _⟩ := hd
        rw [h1] at hat
        cases hq : q.blk <;> simp [hq, pathAt] at hat
      | cons s pa =>
        cases s <;> simp only [getP, reduceCtorEq] at hg
        · exact no hok hg
        · exact no (t := .arr _ _) hok hg
end Go.Own

/- The invariant: a box is frozen. -/
namespace Go.Own
variable {C : Cx} {w w' : World} {I I' : Nat → Prop} {st : St} {tm : Array Value} {tk tk' : Toks}

theorem valRep.one {t : Ty} {x : t.den} {v : Value} (ht : t.isAgg = false) (h : cellsRep w I tk t x [v]) : valRep w I tk t x v := by
  unfold valRep; rw [if_neg (by rw [ht]; decide)]; exact h

theorem cellsRep.fz {s : Nat} {q : Tk} {d : DV} (hq : tk s = some q) (hd : BoxRep w I tk q d) (hok : d.frzOK = true) (hI : ∀ b, I b → I' b) (hb : ∀ b, q.blk = some b → I' b) (ht : ∀ r, r ≠ s → tk' r = tk r) :
    ∀ {t : Ty} {x : t.den} {cs : List Value}, cellsRep w I tk t x cs → cellsRep w I' tk' (frzX s d t x).1 (frzX s d t x).2 cs ∧ (frzX s d t x).1.frz = t.frz := by
  intro t
  have same : ∀ {t : Ty} {x : t.den} {cs : List Value}, s ∉ mentions t → cellsRep w I tk t x cs → cellsRep w I' tk' t x cs := fun hn h =>
    (h.mono hI (fun _ _ => rfl) (Toks.le.refl _)).congr fun r hr => ht r fun e => hn (e ▸ hr)
  induction t with
  | int k => intro x cs h; exact ⟨h, rfl⟩
  | bool => intro x cs h; exact ⟨h, rfl⟩
  | str => intro x cs h; exact ⟨h, rfl⟩
  | flt => intro x cs h; exact ⟨h, rfl⟩
  | unit => intro x cs h; exact ⟨h, rfl⟩
  | eos u => intro x cs h; exact ⟨h, rfl⟩
  | pair a b iha ihb =>
    intro x cs h
    obtain ⟨c1, c2, e, h1, h2⟩ := h
    exact ⟨⟨c1, c2, e, (iha h1).1, (ihb h2).1⟩, by simp only [frzX, Ty.frz, (iha h1).2, (ihb h2).2]⟩
  | arr n t ih =>
    intro x cs h
    exact ⟨same (mentions_kill s _) (h.kill s), kill_frz s _⟩
  | sl t ih => intro x cs h; exact ⟨same (List.not_mem_nil) h, rfl⟩
  | ref t ih => intro x cs h; exact ⟨same (List.not_mem_nil) h, rfl⟩
  | nif => intro x cs h; exact ⟨h, rfl⟩
  | slf => intro x cs h; exact ⟨h, rfl⟩
  | nsl t => intro x cs h; exact ⟨h, rfl⟩
  | sf r t pa =>
    intro x cs h
    have hl := h.length
    have key : ∀ e : DV, frzX s d (.sf r t pa) x = e → (cellsRep w I' tk' e.1 e.2 cs ∧ e.1.frz = .slf) → cellsRep w I' tk' (frzX s d (.sf r t pa) x).1 (frzX s d (.sf r t pa) x).2 cs ∧ (frzX s d (.sf r t pa) x).1.frz = .slf := by
      rintro e rfl h; exact h
    cases hr : Nat.beq r s
    · exact key ⟨.sf r t pa, x⟩ (by unfold frzX; rw [hr]; rfl) ⟨same (by simp only [mentions, List.mem_singleton]; exact fun e => beq_no.1 hr e.symm) h, rfl⟩
    · exact key ⟨.junk .slf, ()⟩ (by unfold frzX; rw [hr]; rfl) ⟨hl, rfl⟩
  | vw r t =>
    intro x cs h
    have hl := h.length
    have key : ∀ e : DV, frzX s d (.vw r t) x = e → (cellsRep w I' tk' e.1 e.2 cs ∧ e.1.frz = .sl t) → cellsRep w I' tk' (frzX s d (.vw r t) x).1 (frzX s d (.vw r t) x).2 cs ∧ (frzX s d (.vw r t) x).1.frz = .sl t := by
      rintro e rfl h; exact h
    cases hr : Nat.beq r s
    · exact key ⟨.vw r t, x⟩ (by unfold frzX; rw [hr]; rfl) ⟨same (by simp only [mentions, List.mem_singleton]; exact fun e => beq_no.1 hr e.symm) h, rfl⟩
    · obtain rfl := beq_iff.1 hr
      obtain ⟨q', h1, h2, rfl⟩ := h
      rw [hq] at h1; cases h1
      cases he : elemsOf d with
      | none => exact key ⟨.junk (.sl t), ()⟩ (by unfold frzX; rw [hr, he]; rfl) ⟨hl, rfl⟩
      | some y =>
        obtain ⟨e, _, hc⟩ := frz_sl (tk' := tk') hd hI hb h2 he
        exact key ⟨.sl y.1, y.2⟩ (by unfold frzX; rw [hr, he]; rfl) ⟨hc, by simp only [Ty.frz, e]⟩
  | pt r t pa =>
    intro x cs h
    have hl := h.length
    have key : ∀ e : DV, frzX s d (.pt r t pa) x = e → (cellsRep w I' tk' e.1 e.2 cs ∧ e.1.frz = .ref t) → cellsRep w I' tk' (frzX s d (.pt r t pa) x).1 (frzX s d (.pt r t pa) x).2 cs ∧ (frzX s d (.pt r t pa) x).1.frz = .ref t := by
      rintro e rfl h; exact h
    cases hr : Nat.beq r s
    · exact key ⟨.pt r t pa, x⟩ (by unfold frzX; rw [hr]; rfl) ⟨same (by simp only [mentions, List.mem_singleton]; exact fun e => beq_no.1 hr e.symm) h, rfl⟩
    · obtain rfl := beq_iff.1 hr
      obtain ⟨v, rfl, q', b, off, h1, h2, h3, rfl⟩ := h
      rw [hq] at h1; cases h1
      cases he : getP d.1 d.2 pa with
      | none => exact key ⟨.junk (.ref t), ()⟩ (by unfold frzX; rw [hr, he]; rfl) ⟨hl, rfl⟩
      | some y =>
        cases hp : y.1.plain with
        | false => exact key ⟨.junk (.ref t), ()⟩ (by unfold frzX; rw [hr, he]; simp only [cond_true, hp, cond_false]) ⟨hl, rfl⟩
        | true =>
          obtain ⟨e, hc⟩ := frz_ref (tk' := tk') hd hok hI hb he hp h2 h3
          exact key ⟨.ref y.1, some y.2⟩ (by unfold frzX; rw [hr, he]; simp only [cond_true, hp]) ⟨hc, by simp only [Ty.frz, e]⟩
  | mp r k v =>
    intro x cs h
    have hl := h.length
    have key : ∀ e : DV, frzX s d (.mp r k v) x = e → (cellsRep w I' tk' e.1 e.2 cs ∧ e.1.frz = .mp 0 k v) → cellsRep w I' tk' (frzX s d (.mp r k v) x).1 (frzX s d (.mp r k v) x).2 cs ∧ (frzX s d (.mp r k v) x).1.frz = .mp 0 k v := by
      rintro e rfl h; exact h
    cases hr : Nat.beq r s
    · exact key ⟨.mp r k v, x⟩ (by unfold frzX; rw [hr]; rfl) ⟨same (by simp only [mentions, List.mem_singleton]; exact fun e => beq_no.1 hr e.symm) h, rfl⟩
    · exact key ⟨.junk (.mp 0 k v), ()⟩ (by unfold frzX; rw [hr]; rfl) ⟨hl, rfl⟩
  | junk t => intro x cs h; exact ⟨h, rfl⟩
  | dyn t => intro x cs h; exact h.elim
  | map k v => intro x cs h; exact h.elim

theorem frzX_top (s : Nat) (d : DV) {t : Ty} (x : t.den) (h : t.isTop = false) : (frzX s d t x).1.isTop = false := by
  cases t <;> first | rfl | cases h; done | skip
  · simp only [frzX]; cases Nat.beq _ s <;> rfl
  · simp only [frzX]; cases Nat.beq _ s <;> first | rfl | (simp only [cond_true]; split <;> rfl)
  · simp only [frzX]; cases Nat.beq _ s
    · rfl
    · simp only [cond_true]
      split
      · rename_i y _; cases y.1.plain <;> rfl
      · rfl
  · simp only [frzX]; cases Nat.beq _ s <;> rfl
theorem valRep.fz {s : Nat} {q : Tk} {d e : DV} {v : Value} (hq : tk s = some q) (hd : BoxRep w I tk q d) (hok : d.frzOK = true) (hI : ∀ b, I b → I' b) (hb : ∀ b, q.blk = some b → I' b) (ht : ∀ r, r ≠ s → tk' r = tk r)
    (h : valRep w I tk e.1 e.2 v) (hn : e.1.isTop = false) : valRep w I' tk' (frzX s d e.1 e.2).1 (frzX s d e.1 e.2).2 v := by
  unfold valRep at h
  split at h
  · rename_i ha
    obtain ⟨cs, e1, h1⟩ := h
    obtain ⟨h2, h3⟩ := h1.fz hq hd hok hI hb ht
    unfold valRep
    rw [if_pos (by rw [isAgg_of_frz h3]; exact ha)]
    exact ⟨cs, e1, h2⟩
  · rename_i ha
    obtain ⟨h2, h3⟩ := cellsRep.fz hq hd hok hI hb ht h
    unfold valRep
    rw [if_neg (by rw [isAgg_of_frz h3]; exact ha)]
    exact h2
theorem mkS_rep {d : DV} {v : Value} (hn : d.1.isTop = false) (h : valRep w I tk d.1 d.2 v) : SRep1 w I tk (mkS d) v := by
  unfold mkS
  cases hp : d.1.plain with
  | true => exact ⟨hp, h⟩
  | false => exact ⟨hn, h⟩
theorem mkS_one (d : DV) : (mkS d).isOne = true := by unfold mkS; cases d.1.plain <;> rfl
theorem SRep1.frz {s : Nat} {q : Tk} {d : DV} (hq : tk s = some q) (hd : BoxRep w I tk q d) (hok : d.frzOK = true) (hI : ∀ b, I b → I' b) (hb : ∀ b, q.blk = some b → I' b) (ht : ∀ r, r ≠ s → tk' r = tk r)
    {v : SV} {x : Value} (h : SRep1 w I tk v x) : SRep1 w I' tk' (v.frz1 s d) x := by
  have same : (∀ r, r ∈ v.sites → r ≠ s) → SRep1 w I' tk' v x := fun hn => (h.world hI (fun _ _ => rfl) (Toks.le.refl _)).congr fun r hr => ht r (hn r hr)
  cases v with
  | p e => exact same (by simp [SV.sites])
  | sd e =>
    simp only [SV.frz1]
    cases hm : (mentions e.1).any (Nat.beq s) with
    | true => exact mkS_rep (frzX_top s d _ h.1) (valRep.fz hq hd hok hI hb ht h.2 h.1)
    | false =>
      refine same fun r hr e => ?_
      subst e
      rw [List.any_eq_false] at hm
      exact hm r hr (beq_iff.2 rfl)
  | ud r t =>
    simp only [SV.frz1]
    cases hr : Nat.beq r s
    · exact same (by simp only [SV.sites, List.mem_singleton]; rintro _ rfl; exact beq_no.1 hr)
    · exact trivial
  | nilm => exact h
  | va r t =>
    simp only [SV.frz1]
    cases hr : Nat.beq r s
    · exact same (by simp only [SV.sites, List.mem_singleton]; rintro _ rfl; exact beq_no.1 hr)
    · obtain rfl := beq_iff.1 hr
      obtain ⟨q', h1, h2, rfl⟩ := h
      rw [hq] at h1; cases h1
      simp only [cond_true]
      cases he : elemsOf d with
      | none => exact trivial
      | some y =>
        obtain ⟨_, hp, hc⟩ := frz_sl (tk' := tk') hd hI hb h2 he
        exact ⟨hp, valRep.one rfl hc⟩
  | vs r t pa lo n =>
    simp only [SV.frz1]
    cases hr : Nat.beq r s
    · exact same (by simp only [SV.sites, List.mem_singleton]; rintro _ rfl; exact beq_no.1 hr)
    · obtain rfl := beq_iff.1 hr
      obtain ⟨q', h1, h2⟩ := h
      rw [hq] at h1; cases h1
      simp only [cond_true]
      cases he : (getP d.1 d.2 pa).bind elemsOf with
      | none => exact trivial
      | some y =>
        obtain ⟨_, hp, hc⟩ := frz_part (tk' := tk') hd hok hI hb h2 he
        exact ⟨hp, valRep.one rfl hc⟩
  | pb r t pa =>
    simp only [SV.frz1]
    cases hr : Nat.beq r s
    · exact same (by simp only [SV.sites, List.mem_singleton]; rintro _ rfl; exact beq_no.1 hr)
    · obtain rfl := beq_iff.1 hr
      obtain ⟨q', b, off, h1, h2, h3, rfl⟩ := h
      rw [hq] at h1; cases h1
      simp only [cond_true]
      cases he : getP d.1 d.2 pa with
      | none => exact trivial
      | some y =>
        cases hp : y.1.plain with
        | false => simp only [hp, cond_false]; exact trivial
        | true =>
          obtain ⟨_, hc⟩ := frz_ref (tk' := tk') hd hok hI hb he hp h2 h3
          simp only [hp, cond_true]
          exact ⟨hp, valRep.one rfl hc⟩
  | mp r k x =>
    simp only [SV.frz1]
    cases hr : Nat.beq r s
    · exact same (by simp only [SV.sites, List.mem_singleton]; rintro _ rfl; exact beq_no.1 hr)
    · exact trivial
  | nil => exact h
  | nilp => exact h
  | clo f caps => exact h.elim
  | tup l => exact h.elim
  | dead => exact trivial
  | und => exact h
theorem frz_one {v : SV} (hv : v.isOne = true) {s : Nat} {c : DV} : v.frz s c = v.frz1 s c := by
  cases v <;> first | rfl | cases hv
theorem SRep.frz {s : Nat} {q : Tk} {d : DV} (hq : tk s = some q) (hd : BoxRep w I tk q d) (hok : d.frzOK = true) (hI : ∀ b, I b → I' b) (hb : ∀ b, q.blk = some b → I' b) (ht : ∀ r, r ≠ s → tk' r = tk r)
    {v : SV} {x : Value} (h : SRep w I tk v x) : SRep w I' tk' (v.frz s d) x := by
  have all : ∀ {l : List SV} {vs : Array Value}, (∀ (j : Nat) (c : SV) (x : Value), l[j]? = some c → vs[j]? = some x → SRep1 w I tk c x) →
      ∀ (j : Nat) (c : SV) (x : Value), (l.map (SV.frz1 s d))[j]? = some c → vs[j]? = some x → SRep1 w I' tk' c x := by
    intro l vs hc j c y h1 h2
    rw [List.getElem?_map] at h1
    cases hj : l[j]? with
    | none => rw [hj] at h1; cases h1
    | some c0 => rw [hj] at h1; simp only [Option.map_some, Option.some.injEq] at h1; subst h1; exact (hc j c0 y hj h2).frz hq hd hok hI hb ht
  cases hv : v.isOne with
  | true => rw [frz_one hv]; exact SRep.of1 (((SRep.one hv).1 h).frz hq hd hok hI hb ht)
  | false =>
    cases v with
    | clo f caps => obtain ⟨vs, e, hl, hc⟩ := h; exact ⟨vs, e, by simpa using hl, all hc⟩
    | tup l => obtain ⟨vs, e, hl, hc⟩ := h; exact ⟨vs, e, by simpa using hl, all hc⟩
    | _ => cases hv
end Go.Own

/- The invariant: a box is frozen; the other boxes. -/
namespace Go.Own
variable {C : Cx} {w w' : World} {I I' : Nat → Prop} {st : St} {tm : Array Value} {tk tk' : Toks}

theorem BoxRep.fz {s : Nat} {q p : Tk} {d e : DV} (hq : tk s = some q) (hd : BoxRep w I tk q d) (hok : d.frzOK = true) (hI : ∀ b, I b → I' b) (hb : ∀ b, q.blk = some b → I' b) (ht : ∀ r, r ≠ s → tk' r = tk r)
    (h : BoxRep w I tk p e) : BoxRep w I' tk' p (frzX s d e.1 e.2) := by
  obtain ⟨t, x⟩ := e
  cases ht' : t.isTop with
  | true =>
    cases t <;> first | cases ht'; done | skip
    · exact (h.world hI (fun _ _ => rfl) (Toks.le.refl _) (fun _ _ => rfl)).congr (fun r hr => absurd hr List.not_mem_nil)
    · exact (h.world hI (fun _ _ => rfl) (Toks.le.refl _) (fun _ _ => rfl)).congr (fun r hr => absurd hr List.not_mem_nil)
  | false =>
    obtain ⟨h1, h2, b, cs, h3, h4, h5⟩ := (BoxRep.str ht').1 h
    obtain ⟨g1, g2⟩ := h5.fz hq hd hok hI hb ht
    exact (BoxRep.str (frzX_top s d x ht')).2 ⟨by rw [g2]; exact h1, h2, b, cs, h3, h4, g1⟩

theorem box_freeze (s r : Nat) (c : DV) (st : St) : (st.freezeC s c).box r = if r = s then none else (st.box r).map fun e => frzX s c e.1 e.2 := by
  unfold St.freezeC St.box
  rw [findB_delB]
  split
  · rfl
  · exact findB_map (fun e => frzX s c e.1 e.2) r st.bx
theorem slot_freeze (s i : Nat) (c : DV) (st : St) : (st.freezeC s c).slot i = (st.slot i).frz s c := slot_map st _ (SV.frz s c) rfl i

/-- A box is frozen. -/
theorem Inv.freeze (h : Inv C st tm w I tk) {s : Nat} {d : DV} {q : Tk} (hs : st.box s = some d) (hq : tk s = some q) (hd : BoxRep w I tk q d) (hok : d.frzOK = true) :
    Inv C (st.freezeC s d) tm w (fun b => I b ∨ q.blk = some b) (fun r => if r = s then none else tk r) := by
  have hI : ∀ b, I b → I b ∨ q.blk = some b := fun b hb => .inl hb
  have hb : ∀ b, q.blk = some b → I b ∨ q.blk = some b := fun b hb => .inr hb
  have ht : ∀ r, r ≠ s → (fun r => if r = s then none else tk r : Toks) r = tk r := fun r hr => if_neg hr
  have old : ∀ {r p}, (if r = s then none else tk r) = some p → r ≠ s ∧ tk r = some p := by
    intro r p hp
    split at hp
    · cases hp
    · rename_i hr; exact ⟨hr, hp⟩
  exact {
    len := by simpa [St.freezeC] using h.len
    small := by simpa [St.freezeC] using h.small
    srt := by
      have h1 := h.srt
      unfold St.srt at *
      unfold St.freezeC
      refine srt_sub ?_ List.filter_sublist
      simpa [List.map_map, Function.comp_def] using h1
    slots := fun i hi => by rw [slot_freeze]; exact (h.slots i (by simpa [St.freezeC] using hi)).frz hq hd hok hI hb ht
    boxes := fun r e hr => by
      rw [box_freeze] at hr
      split at hr
      · cases hr
      · rename_i hrs
        cases hb' : st.box r with
        | none => rw [hb'] at hr; cases hr
        | some e0 =>
          rw [hb'] at hr
          simp only [Option.map_some, Option.some.injEq] at hr
          subst hr
          obtain ⟨p, hp, he⟩ := h.boxes r e0 hb'
          exact ⟨p, (ht r hrs).trans hp, BoxRep.fz hq hd hok hI hb ht he⟩
    inj := fun a b qa qb k h1 h2 h3 h4 => h.inj a b qa qb k (old h1).2 (old h2).2 h3 h4
    tokLt := fun a qa k h1 h2 => h.tokLt a qa k (old h1).2 h2
    tokI := fun a qa k h1 h2 hk => by
      rcases hk with hk | hk
      · exact h.tokI a qa k (old h1).2 h2 hk
      · exact (old h1).1 (h.inj a s qa q k (old h1).2 hq h2 hk)
    tys := fun a qa k h1 h2 => h.tys a qa k (old h1).2 h2
    ilt := fun b hb => by
      rcases hb with hb | hb
      · exact h.ilt b hb
      · exact h.tokLt s q b hq hb
    fresh := fun a qa k h1 h2 => h.fresh a qa k (old h1).2 h2
    ext := fun j q' hj e he => by
      rw [box_freeze] at he
      split at he
      · cases he
      · rename_i hjs
        cases hb' : st.box (site j) with
        | none => rw [hb'] at he; cases he
        | some e0 => exact (ht _ hjs).trans (h.ext j q' hj e0 hb')
    keep := h.keep
    size := h.size
    os := h.os
    output := h.output
    tape := h.tape
    sub := fun b hb => .inl (h.sub b hb)
    new := fun b hb => by
      rcases hb with hb | hb
      · exact h.new b hb
      · rcases h.fresh s q b hq hb with h1 | ⟨j, q', h1, h2⟩
        · exact .inr (.inl h1)
        · exact .inr (.inr ⟨j, q', h1, h2⟩) }
end Go.Own

/- Sites are named anew. -/
namespace Go.Own
variable {C : Cx} {w w' : World} {I I' : Nat → Prop} {st : St} {tm : Array Value} {tk tk' : Toks}

theorem ren_size (ρ : Nat → Nat) : ∀ t : Ty, (t.ren ρ).size = t.size
  | .int _ => rfl
  | .bool => rfl
  | .str => rfl
  | .flt => rfl
  | .unit => rfl
  | .eos _ => rfl
  | .pair a b => by simp only [Ty.ren, Ty.size, ren_size ρ a, ren_size ρ b]
  | .arr n t => by simp only [Ty.ren, Ty.size, ren_size ρ t]
  | .sl _ => rfl
  | .ref _ => rfl
  | .nif => rfl
  | .slf => rfl
  | .nsl _ => rfl
  | .sf _ _ _ => rfl
  | .vw _ _ => rfl
  | .pt _ _ _ => rfl
  | .mp _ _ _ => rfl
  | .junk _ => rfl
  | .dyn _ => rfl
  | .map _ _ => rfl
theorem ren_frz (ρ : Nat → Nat) : ∀ t : Ty, (t.ren ρ).frz = t.frz
  | .int _ => rfl
  | .bool => rfl
  | .str => rfl
  | .flt => rfl
  | .unit => rfl
  | .eos _ => rfl
  | .pair a b => by simp only [Ty.ren, Ty.frz, ren_frz ρ a, ren_frz ρ b]
  | .arr n t => by simp only [Ty.ren, Ty.frz, ren_frz ρ t]
  | .sl _ => rfl
  | .ref _ => rfl
  | .nif => rfl
  | .slf => rfl
  | .nsl _ => rfl
  | .sf _ _ _ => rfl
  | .vw _ _ => rfl
  | .pt _ _ _ => rfl
  | .mp _ _ _ => rfl
  | .junk _ => rfl
  | .dyn _ => rfl
  | .map _ _ => rfl
theorem ren_top (ρ : Nat → Nat) (t : Ty) : (t.ren ρ).isTop = t.isTop := by cases t <;> rfl

theorem cellsRep.ren (ρ : Nat → Nat) : ∀ {t : Ty} {x : t.den} {cs : List Value}, (∀ s, s ∈ mentions t → tk' (ρ s) = tk s) → cellsRep w I tk t x cs → cellsRep w I tk' (t.ren ρ) (renX ρ t x) cs := by
  intro t
  induction t with
  | int k => intro x cs _ h; exact h
  | bool => intro x cs _ h; exact h
  | str => intro x cs _ h; exact h
  | flt => intro x cs _ h; exact h
  | unit => intro x cs _ h; exact h
  | eos u => intro x cs _ h; exact h
  | pair a b iha ihb =>
    intro x cs hm h
    obtain ⟨c1, c2, e, h1, h2⟩ := h
    exact ⟨c1, c2, e, iha (fun s hs => hm s (List.mem_append_left _ hs)) h1, ihb (fun s hs => hm s (List.mem_append_right _ hs)) h2⟩
  | arr n t ih =>
    intro x cs hm h
    obtain ⟨h1, h2, h3⟩ := h
    refine ⟨by simp only [renX, List.length_map]; exact h1, by rw [ren_size]; exact h2, fun i y hy => ?_⟩
    simp only [renX, List.getElem?_map] at hy
    cases hx : x[i]? with
    | none => rw [hx] at hy; cases hy
    | some z =>
      rw [hx] at hy
      simp only [Option.map_some, Option.some.injEq] at hy
      subst hy
      rw [ren_size]
      exact ih hm (h3 i z hx)
  | sl t ih => intro x cs _ h; exact h.toksSl
  | ref t ih => intro x cs _ h; exact h.toksRef
  | nif => intro x cs _ h; exact h
  | slf => intro x cs _ h; exact h
  | nsl t => intro x cs _ h; exact h
  | sf s t pa =>
    intro x cs hm h
    rcases h with h | ⟨h0, v, h1, k, b, off, h2, h3⟩
    · exact .inl h
    · exact .inr ⟨h0, v, h1, k, b, off, (hm s (by simp [mentions])).trans h2, h3⟩
  | vw s t => intro x cs hm h; obtain ⟨k, h1, h2⟩ := h; exact ⟨k, (hm s (by simp [mentions])).trans h1, h2⟩
  | pt s t pa => intro x cs hm h; obtain ⟨v, h1, k, b, off, h2, h3⟩ := h; exact ⟨v, h1, k, b, off, (hm s (by simp [mentions])).trans h2, h3⟩
  | mp s k v => intro x cs hm h; obtain ⟨q, b, h1, h2⟩ := h; exact ⟨q, b, (hm s (by simp [mentions])).trans h1, h2⟩
  | junk t => intro x cs _ h; exact h
  | dyn t => intro x cs _ h; exact h
  | map k v => intro x cs _ h; exact h
theorem BoxRep.ren (ρ : Nat → Nat) {q : Tk} {d : DV} (hm : ∀ s, s ∈ mentions d.1 → tk' (ρ s) = tk s) (h : BoxRep w I tk q d) : BoxRep w I tk' q (d.ren ρ) := by
  unfold DV.ren
  cases he : (mentions d.1).isEmpty with
  | true =>
    have hn : mentions d.1 = [] := List.isEmpty_iff.1 he
    exact h.congr (d := d) (by rw [hn]; intro s hs; cases hs)
  | false =>
    obtain ⟨t, x⟩ := d
    cases ht : t.isTop with
    | true => cases t <;> first | cases ht; done | cases he
    | false =>
      obtain ⟨h1, h2, b, cs, h3, h4, h5⟩ := (BoxRep.str ht).1 h
      exact (BoxRep.str ((ren_top ρ t).trans ht)).2 ⟨by rw [ren_frz]; exact h1, h2, b, cs, h3, h4, h5.ren ρ hm⟩
end Go.Own

/- Operations: the environment; what a state's part says; what an operation comes to. -/
set_option linter.unusedVariables false
namespace Go.Own

/-- The environment tells the truth. -/
structure EnvOK (P : Program) (E : Env) : Prop where
  ty : ∀ T t, E.T T = some t → TyAt P T t
  bytes : ∀ T e i, P.underlying T = some (.slice e) → (E.T T).isSome → P.info? e = some i → i.bytes ≤ E.B T ∧ 0 < E.B T
  mixed : P.follows .mixedOrders = true
  depth : 64 ≤ P.depth
  lev : ∀ T t, E.T T = some t → t.lev ≤ 64
  uns : ∀ T, E.uns T = true → P.underlying T = some .unsafePointer
  up : ∀ T u, E.up T = some u → ∃ e, P.underlying T = some (.pointer e) ∧ P.underlyingId e = u

/-- A state of which less is known. -/
structure View (sv st : St) : Prop where
  slot : ∀ i, sv.slot i = .dead ∨ sv.slot i = st.slot i
  box : ∀ s d, sv.box s = some d → st.box s = some d
theorem View.refl (st : St) : View st st := ⟨fun _ => .inr rfl, fun _ _ h => h⟩

def putT (tm : Array Value) (d : Option Nat) (v : Value) : Array Value := match d with | some d => tm.setIfInBounds d v | none => tm

/-- What an operation comes to: a value for its slot, and the state behind it. -/
def OpGood (C : Cx) (o : Oper) (ds : List Deferred) (st' : St) (tm : Array Value) (w : World) : Prop :=
  ∃ v w' I' tk', ((execOp (Act.eval ⟨tm, ds⟩) o).run C.P w = .ok (.value v) w' ∨ ((execOp (Act.eval ⟨tm, ds⟩) o).run C.P w = .ok .skip w' ∧ v = undef)) ∧
    Inv C st' (putT tm o.dst v) w' I' tk'

variable {C : Cx} {E : Env} {w w' : World} {I I' : Nat → Prop} {st sv : St} {tm : Array Value} {tk tk' : Toks} {ds : List Deferred} {o : Oper}

theorem slot_ge (st : St) (i : Nat) (h : st.sl.length ≤ i) : st.slot i = .dead := by
  unfold St.slot; rw [List.getD_eq_getElem?_getD, List.getElem?_eq_none h]; rfl
theorem slot_lt {i : Nat} {v : SV} (h : st.slot i = v) (hv : v ≠ .dead) : i < st.sl.length := by
  rcases Nat.lt_or_ge i st.sl.length with h1 | h1
  · exact h1
  · rw [slot_ge st i h1] at h; exact absurd h.symm hv

/-- What a slot of the view holds. -/
theorem View.rep (hV : View sv st) (h : Inv C st tm w I tk) (i : Nat) : SRep w I tk (sv.slot i) (tm.getD i undef) := by
  rcases hV.slot i with e | e
  · rw [e]; trivial
  · rw [e]
    rcases Nat.lt_or_ge i st.sl.length with h1 | h1
    · exact h.slots i h1
    · rw [slot_ge st i h1]; trivial
/-- An operand. -/
theorem ev_rep (hV : View sv st) (h : Inv C st tm w I tk) (x : Operand) : SRep w I tk (ev sv x) (Act.eval ⟨tm, ds⟩ x) := by
  cases x with
  | tmp i =>
    have hs := hV.rep h i
    simp only [ev, Act.eval]
    split
    · trivial
    · exact hs
  | const v =>
    simp only [ev, Act.eval]
    unfold ofConst
    split <;> first | (simp [SRep, SRep1, valRep, Ty.isAgg, cellsRep, Ty.plain]; done) | trivial
  | global g => trivial
  | func f => exact ⟨#[], rfl, rfl, by simp⟩

theorem SRep.p {d : DV} {v : Value} (h : SRep w I tk (.p d) v) : valRep w I tk d.1 d.2 v := h.2
theorem SRep.pl {d : DV} {v : Value} (h : SRep w I tk (.p d) v) : d.1.plain = true := h.1

theorem valRep_int {k : IntKind} {n : Int} {v : Value} : valRep w I tk (.int k) n v ↔ v = .int k n := by simp [valRep, Ty.isAgg, cellsRep]
theorem valRep_bool {b : Bool} {v : Value} : valRep w I tk .bool b v ↔ v = .bool b := by simp [valRep, Ty.isAgg, cellsRep]
theorem valRep_str {s : ByteArray} {v : Value} : valRep w I tk .str s v ↔ v = .string s := by simp [valRep, Ty.isAgg, cellsRep]
theorem valRep_flt {s : Nat} {v : Value} : valRep w I tk .flt s v ↔ v = .float .f64 s := by simp [valRep, Ty.isAgg, cellsRep]
theorem pRep_int {k : IntKind} {n : Int} {v : Value} : SRep w I tk (.p ⟨.int k, n⟩) v ↔ v = .int k n := ⟨fun h => valRep_int.1 h.p, fun h => ⟨rfl, valRep_int.2 h⟩⟩
theorem pRep_bool {b : Bool} {v : Value} : SRep w I tk (.p ⟨.bool, b⟩) v ↔ v = .bool b := ⟨fun h => valRep_bool.1 h.p, fun h => ⟨rfl, valRep_bool.2 h⟩⟩
theorem pRep_str {b : ByteArray} {v : Value} : SRep w I tk (.p ⟨.str, b⟩) v ↔ v = .string b := ⟨fun h => valRep_str.1 h.p, fun h => ⟨rfl, valRep_str.2 h⟩⟩
theorem pRep_flt {b : Nat} {v : Value} : SRep w I tk (.p ⟨.flt, b⟩) v ↔ v = .float .f64 b := ⟨fun h => valRep_flt.1 h.p, fun h => ⟨rfl, valRep_flt.2 h⟩⟩

/-- A value comes, and nothing else turns. -/
theorem OpGood.v {v : SV} {x : Value} (h : Inv C st tm w I tk) (hd : ∀ d, o.dst = some d → d < st.sl.length)
    (hr : (execOp (Act.eval ⟨tm, ds⟩) o).run C.P w = .ok (.value x) w) (hv : SRep w I tk v x) :
    OpGood C o ds (Ef.run o.dst ⟨[], some v⟩ st) tm w := by
  refine ⟨x, w, I, tk, .inl hr, ?_⟩
  simp only [Ef.run, runPs]
  cases ho : o.dst with
  | none => exact h
  | some d => exact h.put (hd d ho) hv
/-- Steps were made, and a value comes. -/
theorem OpGood.of {ps : List Pm} {v : SV} {x : Value} (hr : (execOp (Act.eval ⟨tm, ds⟩) o).run C.P w = .ok (.value x) w')
    (h : Inv C (runPs ps st) tm w' I' tk') (hd : ∀ d, o.dst = some d → d < (runPs ps st).sl.length) (hv : SRep w' I' tk' v x) :
    OpGood C o ds (Ef.run o.dst ⟨ps, some v⟩ st) tm w := by
  refine ⟨x, w', I', tk', .inl hr, ?_⟩
  simp only [Ef.run]
  cases ho : o.dst with
  | none => exact h
  | some d => exact h.put (hd d ho) hv

theorem isT_at (hE : EnvOK C.P E) {T : TypeId} {t : Ty} (h : E.isT T t = true) : TyAt C.P T t := by
  unfold Env.isT at h
  split at h
  · rename_i u hu
    have hA := hE.ty T u hu
    simp only [Bool.or_eq_true, decide_eq_true_eq] at h
    rcases h with rfl | h
    · exact hA
    · split at h
      · rename_i t0
        obtain ⟨hb, e, hu2, _⟩ := hA
        refine ⟨⟨hb.size, ?_, hb.agg⟩, e, hu2⟩
        obtain ⟨i, z, h1, h2, h3⟩ := hb.zero
        exact ⟨i, z, h1, h2, h3⟩
      · cases h
  · cases h

/-! ### Numbers -/
variable {P : Program}
theorem ibin_run {op : BinOp} {k : IntKind} {a b : Int} {x : DV} (h : ibin op k a b = some (true, x)) (T : TypeId) (hne : op ≠ .shl ∧ op ≠ .shr) :
    ∃ v, (binOp op T (.int k a) (.int k b)).run P w = .ok v w ∧ SRep w I tk (.p x) v := by
  cases op <;> simp only [ibin, Option.some.injEq, Prod.mk.injEq, true_and, reduceCtorEq, Bool.not_eq_true', decide_eq_false_iff_not] at h <;> (try simp at hne)
  case add => subst h; exact ⟨.int k (k.wrap (a + b)), by simp [binOp, Op.intArith], pRep_int.2 rfl⟩
  case sub => subst h; exact ⟨.int k (k.wrap (a - b)), by simp [binOp, Op.intArith], pRep_int.2 rfl⟩
  case mul => subst h; exact ⟨.int k (k.wrap (a * b)), by simp [binOp, Op.intArith], pRep_int.2 rfl⟩
  case quo => obtain ⟨h0, rfl⟩ := h; exact ⟨.int k (k.wrap (a.tdiv b)), by simp [binOp, Op.intDiv, h0], pRep_int.2 rfl⟩
  case rem => obtain ⟨h0, rfl⟩ := h; exact ⟨.int k (a.tmod b), by simp [binOp, Op.intDiv, h0], pRep_int.2 rfl⟩
  case and => subst h; exact ⟨.int k (ibits k (fun x y => x &&& y) a b), by simp [binOp, Op.intBits, ibits], pRep_int.2 rfl⟩
  case or => subst h; exact ⟨.int k (ibits k (fun x y => x ||| y) a b), by simp [binOp, Op.intBits, ibits], pRep_int.2 rfl⟩
  case xor => subst h; exact ⟨.int k (ibits k (fun x y => x ^^^ y) a b), by simp [binOp, Op.intBits, ibits], pRep_int.2 rfl⟩
  case andNot => subst h; exact ⟨.int k (ibits k (fun x y => x &&& ~~~y) a b), by simp [binOp, Op.intBits, ibits], pRep_int.2 rfl⟩
  case eql => subst h; exact ⟨.bool (a == b), by simp [binOp, Op.intCmp], pRep_bool.2 rfl⟩
  case neq => subst h; exact ⟨.bool (a != b), by simp [binOp, Op.intCmp], pRep_bool.2 rfl⟩
  case lss => subst h; exact ⟨.bool (decide (a < b)), by simp [binOp, Op.intCmp], pRep_bool.2 rfl⟩
  case leq => subst h; exact ⟨.bool (decide (a ≤ b)), by simp [binOp, Op.intCmp], pRep_bool.2 rfl⟩
  case gtr => subst h; exact ⟨.bool (decide (a > b)), by simp [binOp, Op.intCmp], pRep_bool.2 rfl⟩
  case geq => subst h; exact ⟨.bool (decide (a ≥ b)), by simp [binOp, Op.intCmp], pRep_bool.2 rfl⟩

theorem ishift_run {op : BinOp} {k k' : IntKind} {a b : Int} {x : DV} (h : ishift op k a b = some (true, x)) (T : TypeId) :
    ∃ v, (binOp op T (.int k a) (.int k' b)).run P w = .ok v w ∧ SRep w I tk (.p x) v := by
  cases op <;> simp only [ishift, Option.some.injEq, Prod.mk.injEq, reduceCtorEq, Bool.not_eq_true', decide_eq_false_iff_not] at h
  case shl => obtain ⟨h0, rfl⟩ := h; exact ⟨.int k (k.wrap (a * 2 ^ (min b.toNat k.bits))), by simp [binOp, Op.shift, h0], pRep_int.2 rfl⟩
  case shr => obtain ⟨h0, rfl⟩ := h; exact ⟨.int k (a.fdiv (2 ^ (min b.toNat k.bits))), by simp [binOp, Op.shift, h0], pRep_int.2 rfl⟩

theorem sbin_run {op : BinOp} {a b : ByteArray} {x : DV} (h : sbin op a b = some (true, x)) (T : TypeId) :
    ∃ v, (binOp op T (.string a) (.string b)).run P w = .ok v w ∧ SRep w I tk (.p x) v := by
  cases op <;> simp only [sbin, Option.some.injEq, Prod.mk.injEq, true_and, reduceCtorEq, decide_eq_true_eq] at h
  case add =>
    obtain ⟨h0, rfl⟩ := h
    have hm : ¬ (((a.size + b.size : Nat) : Int) > IntKind.i64.max) := by
      have : IntKind.i64.max = 9223372036854775807 := by decide
      omega
    refine ⟨.string (a ++ b), ?_, pRep_str.2 rfl⟩
    simp only [binOp, Op.stringOp]
    rw [if_neg hm]; rfl
  case eql => subst h; exact ⟨.bool (a.toList == b.toList), by simp [binOp, Op.stringOp], pRep_bool.2 rfl⟩
  case neq => subst h; exact ⟨.bool (!(a.toList == b.toList)), by simp [binOp, Op.stringOp], pRep_bool.2 rfl⟩
  case lss => subst h; exact ⟨.bool (Op.bytesLess a.toList b.toList), by simp [binOp, Op.stringOp], pRep_bool.2 rfl⟩
  case leq => subst h; exact ⟨.bool (Op.bytesLess a.toList b.toList || a.toList == b.toList), by simp [binOp, Op.stringOp], pRep_bool.2 rfl⟩
  case gtr => subst h; exact ⟨.bool (!(Op.bytesLess a.toList b.toList || a.toList == b.toList)), by simp [binOp, Op.stringOp], pRep_bool.2 rfl⟩
  case geq => subst h; exact ⟨.bool (!(Op.bytesLess a.toList b.toList)), by simp [binOp, Op.stringOp], pRep_bool.2 rfl⟩

theorem fbin_run {op : BinOp} {a b : Nat} {x : DV} (h : fbin op a b = some (true, x)) (T : TypeId) :
    ∃ v, (binOp op T (.float .f64 a) (.float .f64 b)).run P w = .ok v w ∧ SRep w I tk (.p x) v := by
  have ar : ∀ {r : Option Nat} (op : BinOp), fres r = some (true, x) → (∀ q, r = some q → (Op.floatArith op .f64 a b).run P w = .ok (.float .f64 q) w) →
      ∃ v, (Op.floatArith op .f64 a b).run P w = .ok v w ∧ SRep w I tk (.p x) v := by
    intro r op h hr
    cases r with
    | none => simp [fres] at h
    | some q =>
      simp only [fres, Option.isSome_some, Option.getD_some, Option.some.injEq, Prod.mk.injEq, true_and] at h
      subst h
      exact ⟨_, hr q rfl, pRep_flt.2 rfl⟩
  cases op <;> simp only [fbin, Option.some.injEq, Prod.mk.injEq, true_and, reduceCtorEq] at h
  case add => simp only [binOp, if_neg (by simp : ¬ (FloatKind.f64 ≠ FloatKind.f64))]; exact ar .add h (fun q hq => by simp [Op.floatArith, hq])
  case sub => simp only [binOp, if_neg (by simp : ¬ (FloatKind.f64 ≠ FloatKind.f64))]; exact ar .sub h (fun q hq => by simp [Op.floatArith, hq])
  case mul => simp only [binOp, if_neg (by simp : ¬ (FloatKind.f64 ≠ FloatKind.f64))]; exact ar .mul h (fun q hq => by simp [Op.floatArith, hq])
  case quo => simp only [binOp, if_neg (by simp : ¬ (FloatKind.f64 ≠ FloatKind.f64))]; exact ar .quo h (fun q hq => by simp [Op.floatArith, hq])
  case eql => subst h; exact ⟨_, by simp [binOp, Op.floatCmp], pRep_bool.2 rfl⟩
  case neq => subst h; exact ⟨_, by simp [binOp, Op.floatCmp], pRep_bool.2 rfl⟩
  case lss => subst h; exact ⟨_, by simp [binOp, Op.floatCmp], pRep_bool.2 rfl⟩
  case leq => subst h; exact ⟨_, by simp [binOp, Op.floatCmp], pRep_bool.2 rfl⟩
  case gtr => subst h; exact ⟨_, by simp [binOp, Op.floatCmp], pRep_bool.2 rfl⟩
  case geq => subst h; exact ⟨_, by simp [binOp, Op.floatCmp], pRep_bool.2 rfl⟩
end Go.Own

/- Equality of data, and parts of aggregates. -/
namespace Go.Own
variable {P : Program} {E : Env} {w : World} {I : Nat → Prop} {tk : Toks}

theorem TyAt.isAgg {T : TypeId} {t : Ty} (h : TyAt P T t) (w : World) : (Go.isAgg T).run P w = .ok t.isAgg w := by
  unfold Go.isAgg
  cases t <;> simp only [TyAt, tyAF] at h
  case int k => simp [run_underlying h.2, Ty.isAgg]
  case bool => simp [run_underlying h.2, Ty.isAgg]
  case str => simp [run_underlying h.2, Ty.isAgg]
  case flt => simp [run_underlying h.2, Ty.isAgg]
  case unit => obtain ⟨_, _, fs, hu, _⟩ := h; simp [run_underlying hu, Ty.isAgg]
  case pair a b => obtain ⟨_, _, _, fs, hu, _⟩ := h; simp [run_underlying hu, Ty.isAgg]
  case nif => obtain ⟨_, ms, hu⟩ := h; simp [run_underlying hu, Ty.isAgg]
  case slf => obtain ⟨_, e, hu⟩ := h; simp [run_underlying hu, Ty.isAgg]
  case mp s k v => obtain ⟨_, _, a, b, hu, _⟩ := h; simp [run_underlying hu, Ty.isAgg]
  case arr n t => obtain ⟨_, e, hu, _⟩ := h; simp [run_underlying hu, Ty.isAgg]
  case sl t => obtain ⟨_, e, hu, _⟩ := h; simp [run_underlying hu, Ty.isAgg]
  case ref t => obtain ⟨_, e, hu, _⟩ := h; simp [run_underlying hu, Ty.isAgg]

theorem TyAt.sizeOf {T : TypeId} {t : Ty} (h : TyAt P T t) (w : World) : (Go.sizeOf T).run P w = .ok t.size w := by
  have hs := h.base.size
  cases hq : P.info? T with
  | none => simp [hq] at hs
  | some i => simp only [hq, Option.map_some, Option.some.injEq] at hs; simp [Go.sizeOf, typeInfo, hq, hs]

theorem TyAt.one {T : TypeId} {t : Ty} (h : TyAt P T t) (ha : t.isAgg = false) : t.size = 1 := by
  cases t <;> first | rfl | cases ha; done | exact h.elim
/-- A part of an aggregate's cells. -/
theorem part_run {T : TypeId} {t : Ty} (h : TyAt P T t.frz) (cs : Array Value) (off : Nat) (x : t.den) (w : World)
    (hc : cellsRep w I tk t x ((cs.toList.drop off).take t.size)) : ∃ v, (part T cs off).run P w = .ok v w ∧ valRep w I tk t x v := by
  unfold part
  rw [Sem.run_bind, h.isAgg w, Ty.frz_isAgg]
  simp only [Result.andThen_ok]
  cases ha : t.isAgg with
  | true =>
    refine ⟨.agg (cs.extract off (off + t.size)), by simp [h.sizeOf w, Ty.frz_size], ?_⟩
    unfold valRep
    simp only [ha, if_true]
    refine ⟨_, rfl, ?_⟩
    have : (cs.extract off (off + t.size)).toList = (cs.toList.drop off).take t.size := by
      rw [Array.toList_extract]; simp [List.extract]
    rw [this]; exact hc
  | false =>
    have h1 : t.size = 1 := by rw [← Ty.frz_size]; exact h.one (by rw [Ty.frz_isAgg]; exact ha)
    have hl := hc.length
    rw [h1] at hl hc
    match hm : (cs.toList.drop off).take 1, hl with
    | [v], _ =>
      have hv : cs[off]? = some v := by
        have : (cs.toList.drop off)[0]? = some v := by
          have h0 : ((cs.toList.drop off).take 1)[0]? = some v := by rw [hm]; rfl
          simpa using h0
        simpa using this
      refine ⟨v, by simp [hv], ?_⟩
      unfold valRep
      simp only [ha, Bool.false_eq_true, if_false]
      rw [hm] at hc
      exact hc
/-- The program's types point to no box. -/
theorem at_frz : ∀ {t : Ty}, (∀ T, TyAt P T t → t.frz = t) ∧ (∀ fs off, FieldsAt P fs off t → t.frz = t) := by
  intro t
  induction t with
  | pair a b iha ihb =>
    refine ⟨fun T h => ?_, fun fs off h => ?_⟩
    · obtain ⟨_, _, _, fs, _, _, f, r, _, _, h1, h2⟩ := h
      simp only [Ty.frz, iha.1 _ h1, ihb.2 _ _ h2]
    · obtain ⟨f, r, _, _, h1, h2⟩ := h
      simp only [Ty.frz, iha.1 _ h1, ihb.2 _ _ h2]
  | arr n t ih =>
    refine ⟨fun T h => ?_, fun fs off h => h.elim⟩
    obtain ⟨_, e, _, h1⟩ := h
    simp only [Ty.frz, ih.1 _ h1]
  | mp s k v => exact ⟨fun T h => by obtain ⟨_, rfl, _⟩ := h; rfl, fun fs off h => h.elim⟩
  | unit => exact ⟨fun _ _ => rfl, fun _ _ _ => rfl⟩
  | eos u => exact ⟨fun _ _ => rfl, fun _ _ _ => rfl⟩
  | int k => exact ⟨fun _ _ => rfl, fun _ _ _ => rfl⟩
  | bool => exact ⟨fun _ _ => rfl, fun _ _ _ => rfl⟩
  | str => exact ⟨fun _ _ => rfl, fun _ _ _ => rfl⟩
  | flt => exact ⟨fun _ _ => rfl, fun _ _ _ => rfl⟩
  | sl t => exact ⟨fun _ _ => rfl, fun _ _ _ => rfl⟩
  | ref t => exact ⟨fun _ _ => rfl, fun _ _ _ => rfl⟩
  | nif => exact ⟨fun _ _ => rfl, fun _ _ _ => rfl⟩
  | slf => exact ⟨fun _ _ => rfl, fun _ _ _ => rfl⟩
  | _ => exact ⟨fun T h => h.elim, fun fs off h => h.elim⟩
theorem TyAt.frz {T : TypeId} {t : Ty} (h : TyAt P T t) : t.frz = t := at_frz.1 T h

theorem eqGuard_no : ∀ {t : Ty}, t.keyOK = true → (∀ (T : TypeId) (d : Nat), TyAt P T t → t.lev ≤ d → P.eqGuardType d T = false) ∧
    (∀ (fs : List Field) (off d : Nat), FieldsAt P fs off t → t.lev ≤ d + 1 → (fs.any fun f => f.name != "_" && P.eqGuardType d f.type) = false) := by
  intro t
  induction t with
  | int k => intro _; exact ⟨fun T d h hd => by cases d with | zero => simp [Ty.lev] at hd | succ d => simp [Program.eqGuardType, h.2], fun fs off d h => by cases h⟩
  | bool => intro _; exact ⟨fun T d h hd => by cases d with | zero => simp [Ty.lev] at hd | succ d => simp [Program.eqGuardType, h.2], fun fs off d h => by cases h⟩
  | str => intro _; exact ⟨fun T d h hd => by cases d with | zero => simp [Ty.lev] at hd | succ d => simp [Program.eqGuardType, h.2], fun fs off d h => by cases h⟩
  | unit =>
    intro _
    refine ⟨fun T d h hd => ?_, fun fs off d h _ => ?_⟩
    · obtain ⟨_, _, fs, hu, hfs⟩ := h
      cases d with
      | zero => simp [Ty.lev] at hd
      | succ d =>
        simp only [Program.eqGuardType, hu]
        rw [← Array.any_toList, hfs]; rfl
    · have : fs = [] := h
      subst this; rfl
  | eos u =>
    intro _
    refine ⟨fun T d h hd => h.elim, fun fs off d h _ => ?_⟩
    have : fs = [] := h
    subst this; rfl
  | pair a b iha ihb =>
    intro hk
    simp only [Ty.keyOK, Bool.and_eq_true] at hk
    have iha := iha hk.1
    have ihb := ihb hk.2
    have hf : ∀ (f : Field) (r : List Field) (n d : Nat), TyAt P f.type a → FieldsAt P r n b → (Ty.pair a b).lev ≤ d + 1 → ((f :: r).any fun f => f.name != "_" && P.eqGuardType d f.type) = false := by
      intro f r n d h1 h2 hd
      simp only [Ty.lev] at hd
      rw [List.any_cons, iha.1 f.type d h1 (by omega), ihb.2 r n d h2 (by omega)]
      simp
    refine ⟨fun T d h hd => ?_, fun fs off d h hd => ?_⟩
    · obtain ⟨_, _, _, fs, hu, _, f, r, hfs, _, h1, h2⟩ := h
      cases d with
      | zero => simp only [Ty.lev] at hd; omega
      | succ d =>
        simp only [Program.eqGuardType, hu]
        rw [← Array.any_toList, hfs]
        exact hf f r _ d h1 h2 hd
    · obtain ⟨f, r, rfl, _, h1, h2⟩ := h
      exact hf f r _ d h1 h2 hd
  | arr n t ih =>
    intro hk
    simp only [Ty.keyOK] at hk
    refine ⟨fun T d h hd => ?_, fun fs off d h => by cases h⟩
    obtain ⟨_, e, hu, he⟩ := h
    cases d with
    | zero => simp [Ty.lev] at hd
    | succ d => simp only [Program.eqGuardType, hu]; exact (ih hk).1 e d he (by simp only [Ty.lev] at hd; omega)
  | _ => intro hk; cases hk
end Go.Own

/- Equality of data: the model's run. -/
namespace Go.Own
variable {P : Program} {E : Env} {w : World} {I : Nat → Prop} {tk : Toks}

/-- The loop over an array's elements. -/
theorem forIn_eq (w : World) (body : Nat → Option Bool × Unit → Sem (ForInStep (Option Bool × Unit))) (g : Nat → Bool) : ∀ (l : List Nat),
    (∀ i ∈ l, ∀ s, (body i s).run P w = .ok (if g i = true then .yield (none, ()) else .done (some false, ())) w) →
    (forIn l (none, ()) body : Sem (Option Bool × Unit)).run P w = .ok (if l.all g then (none, ()) else (some false, ())) w := by
  intro l
  induction l with
  | nil => intro _; simp
  | cons i l ih =>
    intro h
    rw [List.forIn_cons, Sem.run_bind, h i (by simp)]
    simp only [Result.andThen_ok]
    cases hg : g i with
    | false => simp [hg]
    | true =>
      simp only [if_true]
      rw [ih fun j hj => h j (by simp [hj])]
      simp [hg]

theorem eq_foldr (n : Nat) (q : Nat → Option Bool) (r : Bool)
    (h : (List.range n).foldr (fun i r => match q i, r with | some x, some y => some (x && y) | _, _ => none) (some true) = some r) :
    (∀ i, i < n → (q i).isSome) ∧ r = (List.range n).all fun i => (q i).getD false := by
  have key : ∀ (l : List Nat) (r : Bool), l.foldr (fun i r => match q i, r with | some x, some y => some (x && y) | _, _ => none) (some true) = some r →
      (∀ i ∈ l, (q i).isSome) ∧ r = l.all fun i => (q i).getD false := by
    intro l
    induction l with
    | nil => intro r h; simp at h; simp [← h]
    | cons i l ih =>
      intro r h
      simp only [List.foldr_cons] at h
      split at h
      · rename_i x y hx hy
        simp only [Option.some.injEq] at h
        obtain ⟨h1, h2⟩ := ih y hy
        refine ⟨?_, by simp [← h, hx, h2]⟩
        intro j hj
        simp only [List.mem_cons] at hj
        rcases hj with rfl | hj
        · simp [hx]
        · exact h1 j hj
      · cases h
  obtain ⟨h1, h2⟩ := key _ _ h
  exact ⟨fun i hi => h1 i (by simpa using hi), h2⟩

theorem eq_run : ∀ {t : Ty}, (∀ (T : TypeId) (d : Nat) (v1 v2 : Value) (x y : t.den) (r : Bool), TyAt P T t → t.lev ≤ d → valRep w I tk t x v1 → valRep w I tk t y v2 → eqT t x y = some r →
      (Op.equalIn d T v1 v2).run P w = .ok r w) ∧
    (∀ (fs : List Field) (off d : Nat) (as bs : Array Value) (x y : t.den) (r : Bool), FieldsAt P fs off t → t.lev ≤ d + 1 → (∀ f ∈ fs, f.name ≠ "_") →
      cellsRep w I tk t x (as.toList.drop off) → cellsRep w I tk t y (bs.toList.drop off) → eqT t x y = some r → (Op.eqFields d as bs fs).run P w = .ok r w) := by
  intro t
  induction t with
  | int k =>
    refine ⟨fun T d v1 v2 x y r h hd h1 h2 he => ?_, fun fs off d as bs x y r h => by cases h⟩
    rw [valRep_int] at h1 h2; subst h1; subst h2
    simp only [eqT, Option.some.injEq] at he; subst he
    cases d with
    | zero => simp [Ty.lev] at hd
    | succ d => rw [run_equalIn_int w d T k k x y h.2]; congr 1
  | bool =>
    refine ⟨fun T d v1 v2 x y r h hd h1 h2 he => ?_, fun fs off d as bs x y r h => by cases h⟩
    rw [valRep_bool] at h1 h2; subst h1; subst h2
    simp only [eqT, Option.some.injEq] at he; subst he
    cases d with
    | zero => simp [Ty.lev] at hd
    | succ d => exact run_equalIn_bool w d T x y h.2
  | str =>
    refine ⟨fun T d v1 v2 x y r h hd h1 h2 he => ?_, fun fs off d as bs x y r h => by cases h⟩
    rw [valRep_str] at h1 h2; subst h1; subst h2
    simp only [eqT, Option.some.injEq] at he; subst he
    cases d with
    | zero => simp [Ty.lev] at hd
    | succ d => rw [run_equalIn_string w d T x y h.2, beq_toListBytes]
  | eos u =>
    refine ⟨fun T d v1 v2 x y r h => h.elim, fun fs off d as bs x y r h _ _ _ _ he => ?_⟩
    have : fs = [] := h
    subst this
    simp only [eqT, Option.some.injEq] at he; subst he
    simp [Op.eqFields]
  | unit =>
    refine ⟨fun T d v1 v2 x y r h hd h1 h2 he => ?_, fun fs off d as bs x y r h _ _ _ _ he => ?_⟩
    · obtain ⟨_, hp, fs, hu, hfs⟩ := h
      unfold valRep at h1 h2
      simp only [Ty.isAgg, if_true] at h1 h2
      obtain ⟨as, rfl, h1⟩ := h1
      obtain ⟨bs, rfl, h2⟩ := h2
      simp only [eqT, Option.some.injEq] at he; subst he
      have hF : P.fieldsOf T = fs := by simp [Program.fieldsOf, hu]
      cases d with
      | zero => simp [Ty.lev] at hd
      | succ d => rw [run_equalIn_struct w d T as bs (by rw [hF, hu]) hp, hF, hfs]; simp [Op.eqFields]
    · have : fs = [] := h
      subst this
      simp only [eqT, Option.some.injEq] at he; subst he
      simp [Op.eqFields]
  | pair a b iha ihb =>
    have hf : ∀ (f : Field) (rs : List Field) (off d : Nat) (as bs : Array Value) (x y : (Ty.pair a b).den) (r : Bool), f.offset = off → TyAt P f.type a → FieldsAt P rs (off + a.size) b → (Ty.pair a b).lev ≤ d + 1 →
        f.name ≠ "_" → (∀ f ∈ rs, f.name ≠ "_") → cellsRep w I tk (.pair a b) x (as.toList.drop off) → cellsRep w I tk (.pair a b) y (bs.toList.drop off) → eqT (.pair a b) x y = some r →
        (Op.eqFields d as bs (f :: rs)).run P w = .ok r w := by
      intro f rs off d as bs x y r ho h1 h2 hd hn hns hx hy he
      simp only [Ty.lev] at hd
      obtain ⟨c1, c2, e1, hx1, hx2⟩ := hx
      obtain ⟨c3, c4, e2, hy1, hy2⟩ := hy
      have l1 := hx1.length
      have l3 := hy1.length
      have t1 : (as.toList.drop off).take a.size = c1 := by rw [e1, ← l1]; simp
      have t3 : (bs.toList.drop off).take a.size = c3 := by rw [e2, ← l3]; simp
      have t2 : as.toList.drop (off + a.size) = c2 := by rw [← List.drop_drop, e1, ← l1]; simp
      have t4 : bs.toList.drop (off + a.size) = c4 := by rw [← List.drop_drop, e2, ← l3]; simp
      obtain ⟨v1, hv1, hr1⟩ := part_run (t := a) (h1.frz.symm ▸ h1) as off x.1 w (by rw [t1]; exact hx1)
      obtain ⟨v2, hv2, hr2⟩ := part_run (t := a) (h1.frz.symm ▸ h1) bs off y.1 w (by rw [t3]; exact hy1)
      simp only [eqT] at he
      split at he
      · rename_i p q hp hq
        simp only [Option.some.injEq] at he
        have e3 := iha.1 f.type d v1 v2 x.1 y.1 p h1 (by omega) hr1 hr2 hp
        have e4 := ihb.2 rs (off + a.size) d as bs x.2 y.2 q h2 (by omega) hns (by rw [t2]; exact hx2) (by rw [t4]; exact hy2) hq
        simp only [Op.eqFields, hn, ne_eq, not_false_eq_true, if_true, Sem.run_bind, ho, hv1, hv2, e3, Result.andThen_ok, Sem.run_ite, e4, Sem.run_pure]
        cases p <;> simp_all
      · cases he
    refine ⟨fun T d v1 v2 x y r h hd h1 h2 he => ?_, fun fs off d as bs x y r h hd hn hx hy he => ?_⟩
    · obtain ⟨_, hp, _, fs, hu, hnm, f, rs, hfs, ho, hF1, hF2⟩ := h
      unfold valRep at h1 h2
      simp only [Ty.isAgg, if_true] at h1 h2
      obtain ⟨as, rfl, h1⟩ := h1
      obtain ⟨bs, rfl, h2⟩ := h2
      have hF : P.fieldsOf T = fs := by simp [Program.fieldsOf, hu]
      cases d with
      | zero => simp only [Ty.lev] at hd; omega
      | succ d =>
        rw [run_equalIn_struct w d T as bs (by rw [hF, hu]) hp, hF, hfs]
        rw [hfs] at hnm
        refine hf f rs 0 d as bs x y r ho hF1 ?_ hd (hnm f (by simp)) (fun g hg => hnm g (by simp [hg])) ?_ ?_ he
        · simpa [FieldsAt] using hF2
        · simpa using h1
        · simpa using h2
    · obtain ⟨f, rs, rfl, ho, hF1, hF2⟩ := h
      exact hf f rs off d as bs x y r ho hF1 hF2 hd (hn f (by simp)) (fun g hg => hn g (by simp [hg])) hx hy he
  | arr n t ih =>
    refine ⟨fun T d v1 v2 x y r h hd h1 h2 he => ?_, fun fs off d as bs x y r h => by cases h⟩
    obtain ⟨_, e, hu, hT0⟩ := h
    have hT : TyAt P e t := hT0
    unfold valRep at h1 h2
    simp only [Ty.isAgg, if_true] at h1 h2
    obtain ⟨as, rfl, hl1, _, h1⟩ := h1
    obtain ⟨bs, rfl, hl2, _, h2⟩ := h2
    simp only [eqT] at he
    obtain ⟨hs, rfl⟩ := eq_foldr n _ r he
    cases d with
    | zero => simp [Ty.lev] at hd
    | succ d =>
      simp only [Ty.lev] at hd
      have hstep : ∀ i, i < n → ((do let a ← part e as (i * t.size); let b ← part e bs (i * t.size); Op.equalIn d e a b : Sem Bool)).run P w =
          .ok ((eqT t (List.getD x i t.dflt) (List.getD y i t.dflt)).getD false) w := by
        intro i hi
        have hxi : x[i]? = some (List.getD x i t.dflt) := by
          rw [List.getD_eq_getElem?_getD, List.getElem?_eq_getElem (by omega)]; rfl
        have hyi : y[i]? = some (List.getD y i t.dflt) := by
          rw [List.getD_eq_getElem?_getD, List.getElem?_eq_getElem (by omega)]; rfl
        obtain ⟨a, ha, hra⟩ := part_run (t := t) (hT.frz.symm ▸ hT) as (i * t.size) _ w (h1 i _ hxi)
        obtain ⟨b, hb, hrb⟩ := part_run (t := t) (hT.frz.symm ▸ hT) bs (i * t.size) _ w (h2 i _ hyi)
        obtain ⟨q, hq⟩ := Option.isSome_iff_exists.1 (hs i hi)
        simp only [Sem.run_bind, ha, hb, Result.andThen_ok]
        rw [ih.1 e d a b _ _ q hT (by omega) hra hrb hq, hq]; rfl
      simp only [Op.equalIn, Sem.run_bind, run_underlying hu, Result.andThen_ok, hT.sizeOf w]
      rw [Std.Legacy.Range.forIn_eq_forIn_range', forIn_eq w _ (fun i => (eqT t (List.getD x i t.dflt) (List.getD y i t.dflt)).getD false)]
      · simp only [Result.andThen_ok]
        have hr : List.range' 0 (Std.Legacy.Range.size [:n]) 1 = List.range n := by
          simp [Std.Legacy.Range.size, List.range_eq_range']
        rw [hr]
        generalize (List.range n).all (fun i => (eqT t (List.getD x i t.dflt) (List.getD y i t.dflt)).getD false) = q
        cases q <;> rfl
      · intro i hi s
        have hi' : i < n := by simpa [Std.Legacy.Range.size] using hi
        have hst := hstep i hi'
        generalize (eqT t (List.getD x i t.dflt) (List.getD y i t.dflt)).getD false = q at hst ⊢
        have hb : ∀ (f : Bool → Sem (ForInStep (Option Bool × Unit))), ((do let a ← part e as (i * t.size); let b ← part e bs (i * t.size); let r ← Op.equalIn d e a b; f r : Sem _)).run P w = (f q).run P w := by
          intro f
          have h0 : (do let a ← part e as (i * t.size); let b ← part e bs (i * t.size); let r ← Op.equalIn d e a b; f r : Sem _) =
              (do let a ← part e as (i * t.size); let b ← part e bs (i * t.size); Op.equalIn d e a b : Sem Bool) >>= f := by simp only [bind_assoc]
          rw [h0, Sem.run_bind, hst]; rfl
        rw [hb]
        cases q <;> rfl
  | _ => exact ⟨fun T d v1 v2 x y r h hd h1 h2 he => by simp [eqT] at he, fun fs off d as bs x y r h => by cases h⟩
end Go.Own

/- Two operands, and what comes of them. -/
set_option linter.unusedVariables false
namespace Go.Own
variable {C : Cx} {E : Env} {w : World} {I : Nat → Prop} {st sv : St} {tm : Array Value} {tk : Toks} {ds : List Deferred} {o : Oper}
section
variable {P : Program}

theorem eq_sound (hE : EnvOK P E) {T : TypeId} {t : Ty} (hk : t.keyOK = true) (hT : E.T T = some t) {x y : t.den} {v1 v2 : Value} {r : Bool} (op : BinOp) (ox oy : Operand)
    (h1 : valRep w I tk t x v1) (h2 : valRep w I tk t y v2) (he : eqT t x y = some r) :
    (eqGuard op T ox oy v1 v2).run P w = .ok () w ∧ (binOp .eql T v1 v2).run P w = .ok (.bool r) w ∧ (binOp .neq T v1 v2).run P w = .ok (.bool (!r)) w := by
  have hA := hE.ty T t hT
  have hlev : t.lev ≤ 10000 := Nat.le_trans (hE.lev T t hT) (by omega)
  have hr := eq_run.1 T 10000 v1 v2 x y r hA hlev h1 h2 he
  have hg : P.eqGuardType P.depth T = false := (eqGuard_no hk).1 T P.depth hA (Nat.le_trans (hE.lev T t hT) hE.depth)
  have agg : ∀ as bs, v1 = .agg as → v2 = .agg bs → (eqGuard op T ox oy v1 v2).run P w = .ok () w ∧ (binOp .eql T v1 v2).run P w = .ok (.bool r) w ∧ (binOp .neq T v1 v2).run P w = .ok (.bool (!r)) w := by
    rintro as bs rfl rfl
    refine ⟨run_eqGuard_agg w op T ox oy as bs hg, ?_, ?_⟩
    · rw [run_eql_struct, hr]; rfl
    · rw [run_neq_struct, hr]; rfl
  cases t with
  | int k =>
    rw [valRep_int] at h1 h2; subst h1; subst h2
    simp only [eqT, Option.some.injEq] at he; subst he
    refine ⟨by cases op <;> simp [eqGuard], ?_, ?_⟩
    · simp [binOp, Op.intCmp]; congr 1
    · simp [binOp, Op.intCmp, bne]; congr 1
  | bool =>
    rw [valRep_bool] at h1 h2; subst h1; subst h2
    refine ⟨by cases op <;> simp [eqGuard], ?_, ?_⟩
    · simp only [binOp, Op.equal, Op.maxDepth, Sem.run_bind, hr, Result.andThen_ok, Sem.run_pure]
    · simp only [binOp, Op.equal, Op.maxDepth, Sem.run_bind, hr, Result.andThen_ok, Sem.run_pure]
  | str =>
    rw [valRep_str] at h1 h2; subst h1; subst h2
    simp only [eqT, Option.some.injEq] at he; subst he
    refine ⟨by cases op <;> simp [eqGuard], ?_, ?_⟩
    · simp only [binOp, Op.stringOp, beq_toListBytes]; rfl
    · simp only [binOp, Op.stringOp, beq_toListBytes]; rfl
  | unit => unfold valRep at h1 h2; simp only [Ty.isAgg, if_true] at h1 h2; obtain ⟨as, e1, _⟩ := h1; obtain ⟨bs, e2, _⟩ := h2; exact agg as bs e1 e2
  | eos u => exact hA.elim
  | pair a b => unfold valRep at h1 h2; simp only [Ty.isAgg, if_true] at h1 h2; obtain ⟨as, e1, _⟩ := h1; obtain ⟨bs, e2, _⟩ := h2; exact agg as bs e1 e2
  | arr n t => unfold valRep at h1 h2; simp only [Ty.isAgg, if_true] at h1 h2; obtain ⟨as, e1, _⟩ := h1; obtain ⟨bs, e2, _⟩ := h2; exact agg as bs e1 e2
  | _ => cases hk

theorem run_eq_slice (T e : TypeId) (hu : P.underlying T = some (.slice e)) (a : Option Addr) (n c : Nat) (d : Nat) :
    (Op.equalIn (d + 1) T (.slice a n c) (.slice none 0 0)).run P w = .ok a.isNone w ∧ (Op.equalIn (d + 1) T (.slice none 0 0) (.slice a n c)).run P w = .ok a.isNone w := by
  constructor
  · cases a <;> simp [Op.equalIn, run_underlying hu]
  · simp [Op.equalIn, run_underlying hu]
theorem run_eq_ptr (T e : TypeId) (hu : P.underlying T = some (.pointer e)) (a : Option Addr) (d : Nat) :
    (Op.equalIn (d + 1) T (.pointer a) (.pointer none)).run P w = .ok a.isNone w ∧ (Op.equalIn (d + 1) T (.pointer none) (.pointer a)).run P w = .ok a.isNone w := by
  constructor
  · cases a <;> simp [Op.equalIn, run_underlying hu]
  · simp [Op.equalIn, run_underlying hu]
theorem run_eq_map (T a b : TypeId) (hu : P.underlying T = some (.map a b)) (r : Option Nat) (d : Nat) :
    (Op.equalIn (d + 1) T (.map r) (.map none)).run P w = .ok r.isNone w ∧ (Op.equalIn (d + 1) T (.map none) (.map r)).run P w = .ok r.isNone w := by
  constructor
  · cases r <;> simp [Op.equalIn, run_underlying hu]
  · cases r <;> simp [Op.equalIn, run_underlying hu]

theorem nilOp_sound {op : BinOp} {r : Bool} {x : DV} {T : TypeId} {v1 v2 : Value} (h : nilOp op true r = some (true, x))
    (h1 : (binOp .eql T v1 v2).run P w = .ok (.bool r) w) (h2 : (binOp .neq T v1 v2).run P w = .ok (.bool (!r)) w) :
    ∃ v, (binOp op T v1 v2).run P w = .ok v w ∧ SRep w I tk (.p x) v := by
  unfold nilOp at h
  split at h
  · simp only [Option.some.injEq, Prod.mk.injEq, true_and] at h; subst h; exact ⟨_, h1, pRep_bool.2 rfl⟩
  · simp only [Option.some.injEq, Prod.mk.injEq, true_and] at h; subst h; exact ⟨_, h2, pRep_bool.2 rfl⟩
  · cases h
theorem nilOp_true {op : BinOp} {c r : Bool} {x : DV} (h : nilOp op c r = some (true, x)) : c = true := by
  unfold nilOp at h
  split at h
  · simp only [Option.some.injEq, Prod.mk.injEq] at h; exact h.1
  · simp only [Option.some.injEq, Prod.mk.injEq] at h; exact h.1
  · cases h
/-- Held against another one by the model's equality. -/
theorem by_equal {op : BinOp} {r : Bool} {x : DV} {T : TypeId} {v1 v2 : Value} (h : nilOp op true r = some (true, x)) (hq : (Op.equalIn 10000 T v1 v2).run P w = .ok r w)
    (h1 : binOp .eql T v1 v2 = (do pure (.bool (← Op.equal T v1 v2)))) (h2 : binOp .neq T v1 v2 = (do pure (.bool (!(← Op.equal T v1 v2))))) :
    ∃ v, (binOp op T v1 v2).run P w = .ok v w ∧ SRep w I tk (.p x) v := by
  refine nilOp_sound h ?_ ?_
  · rw [h1]; simp only [Op.equal, Op.maxDepth, Sem.run_bind, hq, Result.andThen_ok, Sem.run_pure]
  · rw [h2]; simp only [Op.equal, Op.maxDepth, Sem.run_bind, hq, Result.andThen_ok, Sem.run_pure]
end

/-- Is a slice nil? -/
theorem isNilS_sound (hV : View sv st) (hI : Inv C st tm w I tk) {s : SV} {v : Value} {c r : Bool} (hs : SRep w I tk s v) (h : isNilS sv s = some (c, r)) (hc : c = true) :
    ∃ ad n cap, v = .slice ad n cap ∧ ad.isNone = r := by
  unfold isNilS at h
  split at h
  · rename_i t l
    simp only [Option.some.injEq, Prod.mk.injEq] at h
    obtain ⟨rfl, rfl⟩ := h
    have hv := hs.p
    simp only [valRep, Ty.isAgg, Bool.false_eq_true, if_false, cellsRep] at hv
    obtain ⟨ad, cap, e, _, hv⟩ := hv
    simp only [List.cons.injEq, and_true] at e
    refine ⟨ad, _, cap, e, ?_⟩
    rcases hv with rfl | ⟨_, b, o, rfl, _⟩
    · simp at hc
    · rfl
  · rename_i s t
    split at h
    · rename_i t' x hb
      simp only [Option.some.injEq, Prod.mk.injEq] at h
      obtain ⟨rfl, rfl⟩ := h
      obtain ⟨q, h1, h2, rfl⟩ := hs
      obtain ⟨q', h3, h4⟩ := hI.boxes _ _ (hV.box _ _ hb)
      rw [h1] at h3; cases h3
      obtain ⟨_, _, _, _, h5, _⟩ := h4
      refine ⟨q.ad, q.len, q.cap, rfl, ?_⟩
      cases hx : x.1 <;> cases ha : q.ad <;> simp_all
    · cases h
  · simp only [Option.some.injEq, Prod.mk.injEq] at h
    obtain ⟨_, rfl⟩ := h
    exact ⟨none, 0, 0, hs, rfl⟩
  · cases h
theorem isNilP_sound {s : SV} {v : Value} {r : Bool} (hs : SRep w I tk s v) (h : isNilP s = some r) : ∃ a : Option Addr, v = .pointer a ∧ a.isNone = r := by
  unfold isNilP at h
  split at h
  · rename_i t x
    simp only [Option.some.injEq] at h; subst h
    have hv := hs.p
    simp only [valRep, Ty.isAgg, Bool.false_eq_true, if_false] at hv
    cases x with
    | none => simp only [cellsRep, List.cons.injEq, and_true] at hv; exact ⟨none, hv, rfl⟩
    | some y => simp only [cellsRep] at hv; obtain ⟨_, b, o, c, e, _⟩ := hv; simp only [List.cons.injEq, and_true] at e; exact ⟨_, e, rfl⟩
  · simp only [Option.some.injEq] at h; subst h
    have hv := hs.p
    simp only [valRep, Ty.isAgg, Bool.false_eq_true, if_false, cellsRep, List.cons.injEq, and_true] at hv
    exact ⟨none, hv, rfl⟩
  · rename_i s t pa x
    simp only [Option.some.injEq] at h; subst h
    have hv := hs.2
    simp only [valRep, Ty.isAgg, Bool.false_eq_true, if_false, cellsRep, List.cons.injEq, and_true] at hv
    rcases hv with ⟨rfl, hv⟩ | ⟨rfl, u, rfl, k, b, off, _, _, _, rfl⟩
    · exact ⟨none, hv, rfl⟩
    · exact ⟨_, rfl, rfl⟩
  · simp only [Option.some.injEq] at h; subst h
    obtain ⟨k, b, off, _, _, _, rfl⟩ := hs
    exact ⟨_, rfl, rfl⟩
  · simp only [Option.some.injEq] at h; subst h; exact ⟨none, hs, rfl⟩
  · cases h
theorem isNilM_sound {s : SV} {v : Value} {r : Bool} (hs : SRep w I tk s v) (h : isNilM s = some r) : ∃ a : Option Nat, v = .map a ∧ a.isNone = r := by
  unfold isNilM at h
  split at h
  · simp only [Option.some.injEq] at h; subst h
    obtain ⟨q, b, _, _, _, rfl⟩ := hs
    exact ⟨_, rfl, rfl⟩
  · simp only [Option.some.injEq] at h; subst h; exact ⟨none, hs, rfl⟩
  · cases h

theorem nilB_sound (hE : EnvOK C.P E) (hV : View sv st) (hI : Inv C st tm w I tk) {T : TypeId} {op : BinOp} {s1 s2 : SV} {v1 v2 : Value} {x : DV} (ox oy : Operand)
    (h1 : SRep w I tk s1 v1) (h2 : SRep w I tk s2 v2) (hb : nilB sv (E.T T) op s1 s2 = some (true, x)) :
    ((eqGuard op T ox oy v1 v2).run C.P w = .ok () w ∧ ∃ v, (binOp op T v1 v2).run C.P w = .ok v w ∧ SRep w I tk (.p x) v) ∧
    ((eqGuard op T ox oy v2 v1).run C.P w = .ok () w ∧ ∃ v, (binOp op T v2 v1).run C.P w = .ok v w ∧ SRep w I tk (.p x) v) := by
  unfold nilB at hb
  split at hb
  · split at hb
    · rename_i t hT
      obtain ⟨r, hr, hn⟩ := Option.bind_eq_some_iff.1 hb
      obtain ⟨c, r⟩ := r
      have hc := nilOp_true hn
      dsimp only at hc hn
      subst hc
      obtain ⟨ad, n, cap, rfl, rfl⟩ := isNilS_sound hV hI h2 hr rfl
      have e1 : v1 = .slice none 0 0 := h1
      subst e1
      obtain ⟨_, e, hu, _⟩ := hE.ty T _ hT
      have hq := run_eq_slice (w := w) T e hu ad n cap 9999
      exact ⟨⟨by cases op <;> simp [eqGuard], by_equal hn hq.2 rfl rfl⟩, ⟨by cases op <;> simp [eqGuard], by_equal hn hq.1 rfl rfl⟩⟩
    · cases hb
  · split at hb
    · rename_i t hT
      obtain ⟨r, hr, hn⟩ := Option.bind_eq_some_iff.1 hb
      obtain ⟨a, rfl, rfl⟩ := isNilP_sound h2 hr
      have e1 : v1 = .pointer none := h1
      subst e1
      obtain ⟨_, e, hu, _⟩ := hE.ty T _ hT
      have hq := run_eq_ptr (w := w) T e hu a 9999
      refine ⟨⟨by cases op <;> simp [eqGuard], by_equal hn hq.2 ?_ ?_⟩, ⟨by cases op <;> simp [eqGuard], by_equal hn hq.1 ?_ ?_⟩⟩ <;> cases a <;> rfl
    · cases hb
  · split at hb
    · rename_i s k v hT
      obtain ⟨r, hr, hn⟩ := Option.bind_eq_some_iff.1 hb
      obtain ⟨a, rfl, rfl⟩ := isNilM_sound h2 hr
      have e1 : v1 = .map none := h1
      subst e1
      obtain ⟨_, _, c, d, hu, _⟩ := hE.ty T _ hT
      have hq := run_eq_map (w := w) T c d hu a 9999
      refine ⟨⟨by cases op <;> simp [eqGuard], by_equal hn hq.2 ?_ ?_⟩, ⟨by cases op <;> simp [eqGuard], by_equal hn hq.1 ?_ ?_⟩⟩ <;> cases a <;> rfl
    · cases hb
  · cases hb

theorem ptrB_sound (hE : EnvOK C.P E) {T : TypeId} {t0 : Ty} (hT : E.T T = some (.ref t0)) {op : BinOp} {s1 s2 : SV} {v1 v2 : Value} {x : DV} (ox oy : Operand)
    (h1 : SRep w I tk s1 v1) (h2 : SRep w I tk s2 v2) (hb : ptrB op s1 s2 = some (true, x)) :
    (eqGuard op T ox oy v1 v2).run C.P w = .ok () w ∧ ∃ v, (binOp op T v1 v2).run C.P w = .ok v w ∧ SRep w I tk (.p x) v := by
  obtain ⟨_, te, hu, hA⟩ := hE.ty T _ hT
  have hA' : TyAt C.P te t0 := hA
  obtain ⟨j, _, hj, _⟩ := hA'.base.zero
  have same : ∀ a : Addr, (binOp .eql T (.pointer (some a)) (.pointer (some a))).run C.P w = .ok (.bool true) w ∧ (binOp .neq T (.pointer (some a)) (.pointer (some a))).run C.P w = .ok (.bool false) w := by
    intro a
    have h' : ∀ d : Nat, (Op.equalIn (d + 1) T (.pointer (some a)) (.pointer (some a))).run C.P w = .ok true w := fun d => by
      simp [Op.equalIn, run_underlying hu, sizeOf, typeInfo, hj, run_sameAddr_same]
    have h := h' 9999
    constructor
    · simp only [binOp, Op.equal, Op.maxDepth, Sem.run_bind, h, Result.andThen_ok, Sem.run_pure]
    · simp only [binOp, Op.equal, Op.maxDepth, Sem.run_bind, h, Result.andThen_ok, Sem.run_pure]; rfl
  unfold ptrB at hb
  split at hb
  · rename_i s t pa s' t' pa'
    cases hq : Nat.beq s s' && decide (t = t') && decide (pa = pa') with
    | false => rw [hq] at hb; cases hb
    | true =>
      rw [hq] at hb
      simp only [Bool.and_eq_true, decide_eq_true_eq, Nat.beq_eq] at hq
      obtain ⟨⟨rfl, rfl⟩, rfl⟩ := hq
      obtain ⟨k, b, off, a1, a2, _, rfl⟩ := h1
      obtain ⟨k', b', off', b1, b2, _, rfl⟩ := h2
      rw [a1] at b1; cases b1
      rw [a2] at b2; cases b2
      exact ⟨by cases op <;> simp [eqGuard], nilOp_sound hb (same _).1 (same _).2⟩
  · rename_i s t pa x0 s' t' pa'
    cases hq : Nat.beq s s' && decide (t = t') && decide (pa = pa') with
    | false => rw [hq] at hb; cases hb
    | true =>
      rw [hq] at hb
      simp only [Bool.and_eq_true, decide_eq_true_eq, Nat.beq_eq] at hq
      obtain ⟨⟨rfl, rfl⟩, rfl⟩ := hq
      obtain ⟨k', b', off', b1, b2, _, rfl⟩ := h2
      have hv := h1.2
      simp only [valRep, Ty.isAgg, Bool.false_eq_true, if_false, cellsRep, List.cons.injEq, and_true] at hv
      rcases hv with ⟨rfl, rfl⟩ | ⟨rfl, u, rfl, k, b, off, a1, a2, _, rfl⟩
      · exact ⟨by cases op <;> simp [eqGuard], by_equal hb (run_eq_ptr (w := w) T te hu (some ⟨b', off', none⟩) 9999).2 rfl rfl⟩
      · rw [a1] at b1; cases b1
        rw [a2] at b2; cases b2
        exact ⟨by cases op <;> simp [eqGuard], nilOp_sound hb (same _).1 (same _).2⟩
  · cases hb

theorem binop_sound (hE : EnvOK C.P E) (hV : View sv st) (hI : Inv C st tm w I tk) {T : TypeId} {op : BinOp} {s1 s2 : SV} {v1 v2 : Value} {x : DV} (ox oy : Operand)
    (h1 : SRep w I tk s1 v1) (h2 : SRep w I tk s2 v2) (hb : binop sv (E.T T) op s1 s2 = some (true, x)) :
    ∃ v, ((do eqGuard op T ox oy v1 v2; binOp op T v1 v2 : Sem Value)).run C.P w = .ok v w ∧ SRep w I tk (.p x) v := by
  have go : ((eqGuard op T ox oy v1 v2).run C.P w = .ok () w ∧ (∃ v, (binOp op T v1 v2).run C.P w = .ok v w ∧ SRep w I tk (.p x) v)) →
      ∃ v, ((do eqGuard op T ox oy v1 v2; binOp op T v1 v2 : Sem Value)).run C.P w = .ok v w ∧ SRep w I tk (.p x) v := by
    rintro ⟨hg, v, hv, hr⟩
    exact ⟨v, by rw [Sem.run_bind, hg]; exact hv, hr⟩
  unfold binop at hb
  split at hb
  · rename_i k a k' b
    have e1 := pRep_int.1 h1
    have e2 := pRep_int.1 h2
    subst e1; subst e2
    refine go ⟨by cases op <;> simp [eqGuard], ?_⟩
    split at hb
    · exact ishift_run hb T
    · exact ishift_run hb T
    · split at hb
      · rename_i hns1 hns2 hk
        subst hk
        exact ibin_run hb T ⟨hns1, hns2⟩
      · cases hb
  · have e1 := pRep_str.1 h1
    have e2 := pRep_str.1 h2
    subst e1; subst e2
    exact go ⟨by cases op <;> simp [eqGuard], sbin_run hb T⟩
  · have e1 := pRep_flt.1 h1
    have e2 := pRep_flt.1 h2
    subst e1; subst e2
    exact go ⟨by cases op <;> simp [eqGuard], fbin_run hb T⟩
  · rename_i t a t' b _ _ _
    split at hb
    · rename_i ht
      subst ht
      cases hq : t'.keyOK && decide (E.T T = some t') with
      | false => rw [hq] at hb; cases hb
      | true =>
        rw [hq] at hb
        simp only [Bool.and_eq_true, decide_eq_true_eq] at hq
        simp only [cond_true] at hb
        split at hb
        · rename_i r he
          obtain ⟨hg, h3, h4⟩ := eq_sound hE hq.1 hq.2 op ox oy h1.p h2.p he
          exact go ⟨hg, nilOp_sound hb h3 h4⟩
        · cases hb
    · cases hb
  · cases hy : s2.isNilK with
    | true =>
      rw [hy] at hb
      exact go (nilB_sound hE hV hI ox oy h2 h1 hb).2
    | false =>
      rw [hy] at hb
      cases hx : s1.isNilK with
      | true =>
        rw [hx] at hb
        exact go (nilB_sound hE hV hI ox oy h1 h2 hb).1
      | false =>
        rw [hx] at hb
        simp only [cond_false] at hb
        split at hb
        · rename_i t0 hT
          exact go (ptrB_sound hE hT ox oy h1 h2 hb)
        · cases hb
end Go.Own

/- Steps of states of which less is known; freezing; paths. -/
set_option linter.unusedVariables false
namespace Go.Own
variable {C : Cx} {P : Program} {E : Env} {w w' : World} {I I' : Nat → Prop} {st sv : St} {tm : Array Value} {tk tk' : Toks} {ds : List Deferred} {o : Oper}

theorem runPs_append : ∀ (ps qs : List Pm) (st : St), runPs (ps ++ qs) st = runPs qs (runPs ps st)
  | [], _, _ => rfl
  | p :: ps, qs, st => runPs_append ps qs (p.run st)
theorem Pm.run_len (p : Pm) (st : St) : (p.run st).sl.length = st.sl.length := by cases p <;> simp [Pm.run, St.setBox, St.kill, St.freezeC]
theorem runPs_len : ∀ (ps : List Pm) (st : St), (runPs ps st).sl.length = st.sl.length
  | [], _ => rfl
  | p :: ps, st => by simp only [runPs]; rw [runPs_len ps, Pm.run_len]
theorem runV_append : ∀ (ps qs : List Pm) (v : SV), runV (ps ++ qs) v = runV qs (runV ps v)
  | [], _, _ => rfl
  | p :: ps, qs, v => runV_append ps qs (p.val v)

theorem View.kill (hV : View sv st) (s : Nat) : View (sv.kill s) (st.kill s) where
  slot := fun i => by
    rw [slot_kill, slot_kill]
    rcases hV.slot i with e | e
    · left; rw [e]; rfl
    · right; rw [e]
  box := fun r d h => by
    rw [box_kill] at h ⊢
    obtain ⟨d0, h1, h2⟩ := Option.map_eq_some_iff.1 h
    rw [hV.box r d0 h1, Option.map_some, h2]
theorem View.frz (hV : View sv st) (s : Nat) (c : DV) : View (sv.freezeC s c) (st.freezeC s c) where
  slot := fun i => by
    rw [slot_freeze, slot_freeze]
    rcases hV.slot i with e | e
    · left; rw [e]; rfl
    · right; rw [e]
  box := fun r d h => by
    rw [box_freeze] at h ⊢
    split at h
    · cases h
    · rename_i hr
      obtain ⟨d0, h1, h2⟩ := Option.map_eq_some_iff.1 h
      rw [if_neg hr, hV.box r d0 h1, Option.map_some, h2]
theorem View.ins (hV : View sv st) (s : Nat) (c : DV) : View (sv.setBox s c) (st.setBox s c) where
  slot := hV.slot
  box := fun r d h => by
    rw [box_setBox] at h ⊢
    split at h
    · rename_i hr; rw [if_pos hr]; exact h
    · rename_i hr; rw [if_neg hr]; exact hV.box r d h
theorem View.del (hV : View sv st) (s : Nat) : View ⟨sv.sl, delB s sv.bx⟩ ⟨st.sl, delB s st.bx⟩ where
  slot := hV.slot
  box := fun r d h => by
    rw [box_del] at h ⊢
    split at h
    · cases h
    · rename_i hr; rw [if_neg hr]; exact hV.box r d h
/-- Steps that set no slot. -/
def noSet : Pm → Bool
  | .set _ _ => false
  | _ => true
theorem View.runs : ∀ {ps : List Pm} {sv st : St}, ps.all noSet = true → View sv st → View (runPs ps sv) (runPs ps st)
  | [], _, _, _, hV => hV
  | p :: ps, sv, st, h, hV => by
    simp only [List.all_cons, Bool.and_eq_true] at h
    refine View.runs (ps := ps) h.2 ?_
    cases p with
    | set i v => cases h.1
    | ins s d => exact hV.ins s d
    | kill s => exact hV.kill s
    | frz s c => exact hV.frz s c
    | del s => exact hV.del s

theorem cellsRep.dz : ∀ {t : Ty} {x : t.den} {cs : List Value}, cellsRep w I tk t x cs → cellsRep w I tk (Go.Own.dz t x).1 (Go.Own.dz t x).2 cs ∧ (Go.Own.dz t x).1.frz = t.frz := by
  intro t
  induction t with
  | pair a b iha ihb =>
    intro x cs h
    obtain ⟨c1, c2, e, h1, h2⟩ := h
    exact ⟨⟨c1, c2, e, (iha h1).1, (ihb h2).1⟩, by simp only [Go.Own.dz, Ty.frz, (iha h1).2, (ihb h2).2]⟩
  | nsl t =>
    intro x cs h
    have h' : cs = [.slice none 0 0] := h
    subst h'
    exact ⟨⟨none, 0, rfl, Nat.le_refl _, .inl rfl⟩, rfl⟩
  | _ => intro x cs h; exact ⟨h, rfl⟩
theorem valRep.dz {d : DV} {v : Value} (h : valRep w I tk d.1 d.2 v) : valRep w I tk (Go.Own.dz d.1 d.2).1 (Go.Own.dz d.1 d.2).2 v := by
  unfold valRep at h
  split at h
  · rename_i ha
    obtain ⟨cs, e1, h1⟩ := h
    unfold valRep
    rw [if_pos (by rw [isAgg_of_frz h1.dz.2]; exact ha)]
    exact ⟨cs, e1, h1.dz.1⟩
  · rename_i ha
    have h1 := cellsRep.dz h
    unfold valRep
    rw [if_neg (by rw [isAgg_of_frz h1.2]; exact ha)]
    exact h1.1

/-- What freezing leaves. -/
structure Froze (C : Cx) (sv st : St) (tm : Array Value) (w : World) (I : Nat → Prop) (tk : Toks) (fs : List Pm) (I' : Nat → Prop) (tk' : Toks) : Prop where
  inv : Inv C (runPs fs st) tm w I' tk'
  view : View (runPs fs sv) (runPs fs st)
  mono : ∀ b, I b → I' b
  val : ∀ v x, SRep w I tk v x → SRep w I' tk' (runV fs v) x
  tok : ∀ r, r ∉ fs.flatMap Pm.fs → tk' r = tk r
  noSet : fs.all Go.Own.noSet = true
  new : ∀ b, I' b → I b ∨ ∃ r q, r ∈ fs.flatMap Pm.fs ∧ tk r = some q ∧ q.blk = some b

theorem SRep.same {v : SV} {x : Value} (h : SRep w I tk v x) (hI : ∀ b, I b → I' b) : SRep w I' tk v x := h.world hI (fun _ _ => rfl) (Toks.le.refl _)

theorem freezePs_sound : ∀ {n : Nat} {ss : List Nat} {sv st : St} {I : Nat → Prop} {tk : Toks} {fs : List Pm}, View sv st → Inv C st tm w I tk → freezePs n sv ss = some fs →
    ∃ I' tk', Froze C sv st tm w I tk fs I' tk' := by
  intro n
  induction n with
  | zero =>
    intro ss sv st I tk fs hV h hf
    cases ss with
    | nil => simp only [freezePs, Option.some.injEq] at hf; subst hf; exact ⟨I, tk, h, hV, fun _ hb => hb, fun _ _ h => h, fun _ _ => rfl, rfl, fun _ hb => .inl hb⟩
    | cons s ss => cases hf
  | succ n ih =>
    intro ss sv st I tk fs hV h hf
    cases ss with
    | nil => simp only [freezePs, Option.some.injEq] at hf; subst hf; exact ⟨I, tk, h, hV, fun _ hb => hb, fun _ _ h => h, fun _ _ => rfl, rfl, fun _ hb => .inl hb⟩
    | cons s ss =>
      simp only [freezePs] at hf
      split at hf
      · exact ih hV h hf
      · rename_i d hb
        have hb' := hV.box s d hb
        obtain ⟨q, hq, hd⟩ := h.boxes s d hb'
        -- what one freezing, and the rest, come to
        have one : ∀ {st1 sv1 : St} {e : DV} {ps : List Pm} {pre : List Pm}, runPs pre st = st1 → runPs pre sv = sv1 → pre.all Go.Own.noSet = true → pre.flatMap Pm.fs = [] → (∀ v, runV pre v = v) →
            View sv1 st1 → Inv C st1 tm w I tk → st1.box s = some e → e.frzOK = true → freezePs n (sv1.freezeC s e) ss = some ps → ∃ I' tk', Froze C sv st tm w I tk (pre ++ .frz s e :: ps) I' tk' := by
          intro st1 sv1 e ps pre e1 e2 hns hfs hvl hV1 h1 hbe hok hps
          obtain ⟨q', hq', hd'⟩ := h1.boxes s e hbe
          have h2 := h1.freeze hbe hq' hd' hok
          obtain ⟨I2, tk2, h3⟩ := ih (hV1.frz s e) h2 hps
          refine ⟨I2, tk2, ?_⟩
          have er : ∀ x, runPs (pre ++ .frz s e :: ps) x = runPs ps ((runPs pre x).freezeC s e) := fun x => by rw [runPs_append]; rfl
          have hm : ∀ b, I b → I b ∨ q'.blk = some b := fun b hb => .inl hb
          constructor
          · rw [er, e1]; exact h3.inv
          · rw [er, er, e1, e2]; exact h3.view
          · exact fun b hb => h3.mono b (.inl hb)
          · intro v x hv
            rw [runV_append, hvl]
            exact h3.val _ x (hv.frz hq' hd' hok hm (fun b hb => .inr hb) (fun r hr => if_neg hr))
          · intro r hr
            simp only [List.flatMap_append, hfs, List.nil_append, List.flatMap_cons, Pm.fs, List.singleton_append, List.mem_cons, not_or] at hr
            rw [h3.tok r hr.2, if_neg hr.1]
          · simp only [List.all_append, List.all_cons, Bool.and_eq_true]
            exact ⟨hns, rfl, h3.noSet⟩
          · intro b hb
            simp only [List.flatMap_append, hfs, List.nil_append, List.flatMap_cons, Pm.fs, List.singleton_append, List.mem_cons]
            rcases h3.new b hb with (h4 | h4) | ⟨r, p, h4, h5, h6⟩
            · exact .inl h4
            · exact .inr ⟨s, q', .inl rfl, hq', h4⟩
            · split at h5
              · cases h5
              · exact .inr ⟨r, p, .inr h4, h5, h6⟩
        split at hf
        · cases ho : d.frzOK with
          | true =>
            rw [ho] at hf
            simp only [cond_true] at hf
            obtain ⟨ps, hp, rfl⟩ := Option.map_eq_some_iff.1 hf
            exact one (pre := []) rfl rfl rfl rfl (fun _ => rfl) hV h hb' ho hp
          | false =>
            rw [ho] at hf
            simp only [cond_false] at hf
            cases ht : (Go.Own.dz d.1 d.2).1.isTop with
            | true => rw [ht] at hf; cases hf
            | false =>
              rw [ht] at hf
              simp only [cond_false] at hf
              cases hz : (Go.Own.dz d.1 d.2).frzOK with
              | false => rw [hz] at hf; cases hf
              | true =>
                rw [hz] at hf
                simp only [cond_true] at hf
                obtain ⟨ps, hp, rfl⟩ := Option.map_eq_some_iff.1 hf
                have htd : d.1.isTop = false := by
                  obtain ⟨t, x⟩ := d
                  cases t <;> first | rfl | exact ht
                have hd2 : BoxRep w I tk q (Go.Own.dz d.1 d.2) := by
                  obtain ⟨h1, h2, b, cs, h3, h4, h5⟩ := (BoxRep.str (t := d.1) (x := d.2) htd).1 hd
                  exact (BoxRep.str ht).2 ⟨by rw [h5.dz.2]; exact h1, h2, b, cs, h3, h4, h5.dz.1⟩
                exact one (pre := [.ins s (Go.Own.dz d.1 d.2)]) rfl rfl rfl rfl (fun _ => rfl) (hV.ins s _) (h.tellBox hb' hq hd2) (by show (st.setBox s _).box s = _; rw [box_setBox, if_pos rfl]) hz hp
        · rename_i m ms _
          cases hm : (m :: ms).any (Nat.beq s) with
          | true => rw [hm] at hf; cases hf
          | false => rw [hm] at hf; exact ih hV h hf
theorem freezeV_sound {vs : List SV} {fs : List Pm} (hV : View sv st) (h : Inv C st tm w I tk) (hf : freezeV sv vs = some fs) : ∃ I' tk', Froze C sv st tm w I tk fs I' tk' :=
  freezePs_sound hV h hf

/-- A value as data. -/
theorem toData_sound {u : Option Ty} {v : SV} {x : Value} {d : DV} (h : SRep w I tk v x) (hd : toData u v = some d) : d.1.plain = true ∧ valRep w I tk d.1 d.2 x := by
  unfold toData at hd
  split at hd
  · cases hd; exact ⟨h.pl, h.p⟩
  · rename_i d0
    cases hp : (Go.Own.dz d0.1 d0.2).1.plain with
    | false => rw [hp] at hd; cases hd
    | true =>
      rw [hp] at hd
      simp only [cond_true, Option.some.injEq] at hd
      subst hd
      exact ⟨hp, valRep.dz h.2⟩
  · have e : x = .slice none 0 0 := h
    split at hd
    · rename_i t
      cases hp : t.plain with
      | false => rw [hp] at hd; cases hd
      | true =>
        rw [hp] at hd; cases hd
        refine ⟨hp, ?_⟩
        rw [e]
        simp only [valRep, Ty.isAgg, Bool.false_eq_true, if_false]
        exact ⟨none, 0, rfl, Nat.le_refl _, .inl rfl⟩
    · cases hd
  · have e : x = .pointer none := h
    split at hd
    · rename_i t
      cases hp : t.plain with
      | false => rw [hp] at hd; cases hd
      | true =>
        rw [hp] at hd; cases hd
        refine ⟨hp, ?_⟩
        rw [e]; simp [valRep, Ty.isAgg, cellsRep]
    · cases hd
      refine ⟨rfl, ?_⟩
      rw [e]; simp [valRep, Ty.isAgg, cellsRep]
    · cases hd
  · cases hd

theorem dataF_sound {u : Option Ty} {v : SV} {x : Value} {fs : List Pm} {d : DV} (hV : View sv st) (h : Inv C st tm w I tk) (hv : SRep w I tk v x) (hf : dataF sv u v = some (fs, d)) :
    ∃ I' tk', Froze C sv st tm w I tk fs I' tk' ∧ d.1.plain = true ∧ valRep w I' tk' d.1 d.2 x := by
  unfold dataF at hf
  split at hf
  · rename_i fs' hfs
    obtain ⟨d', h1, h2⟩ := Option.map_eq_some_iff.1 hf
    cases h2
    obtain ⟨I', tk', hF⟩ := freezeV_sound hV h hfs
    exact ⟨I', tk', hF, toData_sound (hF.val _ _ hv) h1⟩
  · cases hf

/-- A value as a box holds it. -/
theorem singOf_sound {u : Ty} {v : SV} {x : Value} {d : DV} (h : SRep w I tk v x) (hd : singOf u v = some d) : d.1.isTop = false ∧ valRep w I tk d.1 d.2 x := by
  have ptop : ∀ {t : Ty}, t.plain = true → t.isTop = false := by intro t hp; cases t <;> first | rfl | cases hp
  unfold singOf at hd
  split at hd
  · cases hd; exact ⟨ptop h.pl, h.p⟩
  · cases hd; exact h
  · have e : x = .slice none 0 0 := h
    split at hd
    · cases hd; refine ⟨rfl, ?_⟩; rw [e]; simp [valRep, Ty.isAgg, cellsRep]
    · cases hd
  · have e : x = .pointer none := h
    split at hd
    · cases hd; refine ⟨rfl, ?_⟩; rw [e]; simp [valRep, Ty.isAgg, cellsRep]
    · cases hd; refine ⟨rfl, ?_⟩; rw [e]; simp [valRep, Ty.isAgg, cellsRep]
    · cases hd
  · cases hd
    obtain ⟨q, h1, h2, rfl⟩ := h
    refine ⟨rfl, ?_⟩
    simp only [valRep, Ty.isAgg, Bool.false_eq_true, if_false, cellsRep]
    exact ⟨q, h1, h2, rfl⟩
  · split at hd
    · cases hd
      refine ⟨rfl, ?_⟩
      exact valRep.one (t := .sf _ _ _) rfl (.inr ⟨rfl, x, rfl, h⟩)
    · cases hd
      refine ⟨rfl, ?_⟩
      simp only [valRep, Ty.isAgg, Bool.false_eq_true, if_false, cellsRep]
      exact ⟨x, rfl, h⟩
  · cases hd
    obtain ⟨q, b, h1, h2, h3, rfl⟩ := h
    refine ⟨rfl, ?_⟩
    simp only [valRep, Ty.isAgg, Bool.false_eq_true, if_false, cellsRep]
    exact ⟨q, b, h1, h2, h3, rfl⟩
  · cases hd
/-- What a box holds, as a value. -/
theorem ofSing_sound {d : DV} {v : SV} {x : Value} (h : valRep w I tk d.1 d.2 x) (hd : ofSing d = some v) : SRep w I tk v x := by
  unfold ofSing at hd
  split at hd
  · cases hd
    simp only [valRep, Ty.isAgg, Bool.false_eq_true, if_false, cellsRep, List.cons.injEq, and_true] at h
    obtain ⟨k, h1, h2, rfl⟩ := h
    exact ⟨k, h1, h2, rfl⟩
  · cases hd
    simp only [valRep, Ty.isAgg, Bool.false_eq_true, if_false, cellsRep, List.cons.injEq, and_true] at h
    obtain ⟨v, rfl, h1⟩ := h
    exact h1
  · cases hd
    simp only [valRep, Ty.isAgg, Bool.false_eq_true, if_false, cellsRep, List.cons.injEq, and_true] at h
    obtain ⟨q, b, h1, h2, h3, rfl⟩ := h
    exact ⟨q, b, h1, h2, h3, rfl⟩
  · cases hd
    simp only [valRep, Ty.isAgg, Bool.false_eq_true, if_false, cellsRep, List.cons.injEq, and_true] at h
    exact h
  · cases hd
  · cases ht : d.1.isTop with
    | true => rw [ht] at hd; cases hd
    | false =>
      rw [ht] at hd
      simp only [cond_false, Option.some.injEq] at hd
      subst hd
      exact SRep.of1 (mkS_rep ht h)
end Go.Own
