/- What is proved: the evaluator of the translated code, and that it is sound, part 0. Conditions: those that each theorem names. -/
import Derived.WalkKit
set_option linter.unusedVariables false
set_option linter.unusedSimpArgs false
/- The universe of data of the second engine: frozen data, and types that tell which box they point to. -/
namespace Go.Own

/-- A step into a value. -/
inductive PS where
  | fst
  | snd
  | ix (i : Nat)
  | sub (lo n : Nat)
  deriving DecidableEq
abbrev Path := List PS

/-- A type of data. `sl`, `ref`: nobody writes through them. `vw s t`: the whole slice of box s, an own array of elements t. `pt s t pa`: a pointer into box s, to what is of type t there. `mp s k v`: the map of box s. `eos u`: a struct's end, which tells the struct's underlying type. `nif`: the nil interface; `slf`: a nil pointer to what data types do not cover; `nsl t`: the nil slice; `sf s t pa`: nil, or a pointer as `pt s t pa`, whose type is not covered. `junk t`: a cell of which nothing is known. `dyn t`: what an own array's box holds; `map k v`: what a map's box holds. -/
inductive Ty where
  | int (k : IntKind)
  | bool
  | str
  | flt
  | unit
  | eos (u : Nat)
  | pair (a b : Ty)
  | arr (n : Nat) (t : Ty)
  | sl (t : Ty)
  | ref (t : Ty)
  | nif
  | slf
  | nsl (t : Ty)
  | sf (s : Nat) (t : Ty) (pa : Path)
  | vw (s : Nat) (t : Ty)
  | pt (s : Nat) (t : Ty) (pa : Path)
  | mp (s : Nat) (k v : Ty)
  | junk (t : Ty)
  | dyn (t : Ty)
  | map (k v : Ty)
  deriving DecidableEq, Inhabited

@[reducible] def Ty.den : Ty → Type
  | .int _ => Int
  | .bool => Bool
  | .str => ByteArray
  | .flt => Nat
  | .unit => Unit
  | .eos _ => Unit
  | .pair a b => a.den × b.den
  | .arr _ t => List t.den
  | .sl t => List t.den
  | .ref t => Option t.den
  | .nif => Unit
  | .slf => Unit
  | .nsl _ => Unit
  | .sf _ _ _ => Bool
  | .vw _ _ => Unit
  | .pt _ _ _ => Unit
  | .mp _ _ _ => Unit
  | .junk _ => Unit
  | .dyn t => Bool × List t.den
  | .map k v => List (k.den × v.den)

/-- The zero value. -/
def Ty.dflt : (t : Ty) → t.den
  | .int _ => (0 : Int)
  | .bool => false
  | .str => ByteArray.empty
  | .flt => (0 : Nat)
  | .unit => ()
  | .eos _ => ()
  | .pair a b => (a.dflt, b.dflt)
  | .arr n t => List.replicate n t.dflt
  | .sl _ => []
  | .ref _ => none
  | .nif => ()
  | .slf => ()
  | .nsl _ => ()
  | .sf _ _ _ => true
  | .vw _ _ => ()
  | .pt _ _ _ => ()
  | .mp _ _ _ => ()
  | .junk _ => ()
  | .dyn _ => (true, [])
  | .map _ _ => []

/-- How many cells a value takes. -/
def Ty.size : Ty → Nat
  | .unit => 0
  | .eos _ => 0
  | .pair a b => a.size + b.size
  | .arr n t => n * t.size
  | .junk t => t.size
  | _ => 1

/-- Is a value of this type an aggregate (of cells)? -/
def Ty.isAgg : Ty → Bool
  | .unit => true
  | .eos _ => true
  | .pair _ _ => true
  | .arr _ _ => true
  | .junk t => t.isAgg
  | _ => false

/-- The type as the program has it. -/
def Ty.frz : Ty → Ty
  | .pair a b => .pair a.frz b.frz
  | .arr n t => .arr n t.frz
  | .nsl t => .sl t
  | .sf _ _ _ => .slf
  | .vw _ t => .sl t
  | .pt _ t _ => .ref t
  | .mp _ k v => .mp 0 k v
  | .junk t => t.frz
  | t => t
/-- Does it point to no box? -/
def Ty.plain : Ty → Bool
  | .pair a b => a.plain && b.plain
  | .arr _ t => t.plain
  | .sl t => t.plain
  | .ref t => t.plain
  | .nsl _ => false
  | .sf .. => false
  | .vw .. => false
  | .pt .. => false
  | .mp .. => false
  | .junk _ => false
  | .dyn _ => false
  | .map _ _ => false
  | _ => true

theorem Ty.frz_plain : ∀ {t : Ty}, t.plain = true → t.frz = t
  | .int _, _ => rfl
  | .bool, _ => rfl
  | .str, _ => rfl
  | .flt, _ => rfl
  | .unit, _ => rfl
  | .eos _, _ => rfl
  | .pair a b, h => by
    simp only [Ty.plain, Bool.and_eq_true] at h
    simp only [Ty.frz, Ty.frz_plain h.1, Ty.frz_plain h.2]
  | .arr n t, h => by simp only [Ty.plain] at h; simp only [Ty.frz, Ty.frz_plain h]
  | .sl _, _ => rfl
  | .ref _, _ => rfl
  | .nif, _ => rfl
  | .slf, _ => rfl
  | .nsl _, h => by cases h
  | .sf _ _ _, h => by cases h
  | .vw _ _, h => by cases h
  | .pt _ _ _, h => by cases h
  | .mp _ _ _, h => by cases h
  | .junk _, h => by cases h
  | .dyn _, h => by cases h
  | .map _ _, h => by cases h
theorem Ty.frz_size : ∀ (t : Ty), t.frz.size = t.size
  | .int _ => rfl
  | .bool => rfl
  | .str => rfl
  | .flt => rfl
  | .unit => rfl
  | .eos _ => rfl
  | .pair a b => by simp only [Ty.frz, Ty.size, Ty.frz_size a, Ty.frz_size b]
  | .arr n t => by simp only [Ty.frz, Ty.size, Ty.frz_size t]
  | .sl _ => rfl
  | .ref _ => rfl
  | .nif => rfl
  | .slf => rfl
  | .nsl _ => rfl
  | .sf _ _ _ => rfl
  | .vw _ _ => rfl
  | .pt _ _ _ => rfl
  | .mp _ _ _ => rfl
  | .junk t => by simp only [Ty.frz, Ty.size, Ty.frz_size t]
  | .dyn _ => rfl
  | .map _ _ => rfl
theorem Ty.frz_isAgg : ∀ (t : Ty), t.frz.isAgg = t.isAgg
  | .int _ => rfl
  | .bool => rfl
  | .str => rfl
  | .flt => rfl
  | .unit => rfl
  | .eos _ => rfl
  | .pair _ _ => rfl
  | .arr _ _ => rfl
  | .sl _ => rfl
  | .ref _ => rfl
  | .nif => rfl
  | .slf => rfl
  | .nsl _ => rfl
  | .sf _ _ _ => rfl
  | .vw _ _ => rfl
  | .pt _ _ _ => rfl
  | .mp _ _ _ => rfl
  | .junk t => by simp only [Ty.frz, Ty.isAgg, Ty.frz_isAgg t]
  | .dyn _ => rfl
  | .map _ _ => rfl

/-- Where the part at a path lies, in cells. -/
def pathAt : Ty → Path → Option (Nat × Ty)
  | t, [] => some (0, t)
  | .pair a _, .fst :: p => pathAt a p
  | .pair a b, .snd :: p => (pathAt b p).map fun r => (a.size + r.1, r.2)
  | .arr _ t, .ix i :: p => (pathAt t p).map fun r => (i * t.size + r.1, r.2)
  | .dyn t, .ix i :: p => (pathAt t p).map fun r => (i * t.size + r.1, r.2)
  | .arr _ t, .sub lo n :: p => (pathAt (.arr n t) p).map fun r => (lo * t.size + r.1, r.2)
  | .dyn t, .sub lo n :: p => (pathAt (.arr n t) p).map fun r => (lo * t.size + r.1, r.2)
  | _, _ => none

/-- Where a box lies: its block (none: an empty array), from which cell on; a slice's length and room; its type, as the program has it; the type of the block's variables. -/
structure Tk where
  blk : Option Nat
  off : Nat
  ad : Option Addr
  len : Nat
  cap : Nat
  ty : Ty
  tid : TypeId
abbrev Toks := Nat → Option Tk
/-- A box's slice header. -/
def Tk.hdr (k : Tk) : Value := .slice k.ad k.len k.cap

/-- The cells of block b from o on are these. -/
def cellsAt (w : World) (b o : Nat) (cs : List Value) : Prop := ∀ j v, cs[j]? = some v → w.cell? ⟨b, o + j, none⟩ = some v

/-- Where the part at a path lies: its block, from which cell on, its type as the program has it. -/
def Tk.at (k : Tk) (pa : Path) : Option (Nat × Nat × Ty) := match k.blk, pathAt k.ty pa with
  | some b, some (off, t) => some (b, k.off + off, t)
  | _, _ => none
/-- Each index is in its range; n: how long an own array is. -/
def pathIn (n : Nat) : Ty → Path → Prop
  | _, [] => True
  | .pair a _, .fst :: p => pathIn n a p
  | .pair _ b, .snd :: p => pathIn n b p
  | .arr m t, .ix i :: p => i < m ∧ pathIn n t p
  | .dyn t, .ix i :: p => i < n ∧ pathIn n t p
  | .arr m t, .sub lo k :: p => lo + k ≤ m ∧ pathIn n (.arr k t) p
  | .dyn t, .sub lo k :: p => lo + k ≤ n ∧ pathIn n (.arr k t) p
  | _, _ => False
/-- A pointer to the part at pa of box s, which is of type t. -/
def ptRep (tk : Toks) (s : Nat) (t : Ty) (pa : Path) (v : Value) : Prop :=
  ∃ k b off, tk s = some k ∧ k.at pa = some (b, off, t) ∧ pathIn k.len k.ty pa ∧ v = .pointer (some ⟨b, off, none⟩)

/-- Cells read as data; what is behind frozen pointers and slices lies in blocks of I. -/
def cellsRep (w : World) (I : Nat → Prop) (tk : Toks) : (t : Ty) → t.den → List Value → Prop
  | .int k, n, cs => cs = [.int k n]
  | .bool, b, cs => cs = [.bool b]
  | .str, s, cs => cs = [.string s]
  | .flt, b, cs => cs = [.float .f64 b]
  | .unit, _, cs => cs = []
  | .eos _, _, cs => cs = []
  | .pair a b, x, cs => ∃ c1 c2, cs = c1 ++ c2 ∧ cellsRep w I tk a x.1 c1 ∧ cellsRep w I tk b x.2 c2
  | .arr n t, l, cs => l.length = n ∧ cs.length = n * t.size ∧ ∀ i x, l[i]? = some x → cellsRep w I tk t x ((cs.drop (i * t.size)).take t.size)
  | .sl t, l, cs => ∃ ad cap, cs = [.slice ad l.length cap] ∧ l.length ≤ cap ∧ (l = [] ∨ t.plain = true ∧ ∃ b o, ad = some ⟨b, o, none⟩ ∧ I b ∧
      ∀ i x, l[i]? = some x → ∃ c, cellsRep w I tk t x c ∧ cellsAt w b (o + i * t.size) c)
  | .ref t, r, cs => match r with
    | none => cs = [.pointer none]
    | some x => t.plain = true ∧ ∃ b o c, cs = [.pointer (some ⟨b, o, none⟩)] ∧ I b ∧ cellsRep w I tk t x c ∧ cellsAt w b o c
  | .nif, _, cs => cs = [.nilIface]
  | .slf, _, cs => cs = [.pointer none]
  | .nsl _, _, cs => cs = [.slice none 0 0]
  | .sf s t pa, x, cs => (x = true ∧ cs = [.pointer none]) ∨ (x = false ∧ ∃ v, cs = [v] ∧ ptRep tk s t pa v)
  | .vw s t, _, cs => ∃ k, tk s = some k ∧ k.ty = .dyn t ∧ cs = [k.hdr]
  | .pt s t pa, _, cs => ∃ v, cs = [v] ∧ ptRep tk s t pa v
  | .mp s k v, _, cs => ∃ q b, tk s = some q ∧ q.ty = .map k v ∧ q.blk = some b ∧ cs = [.map (some b)]
  | .junk t, _, cs => cs.length = t.size
  | .dyn _, _, _ => False
  | .map _ _, _, _ => False

theorem cellsRep.length {w : World} {I : Nat → Prop} {tk : Toks} : ∀ {t : Ty} {x : t.den} {cs : List Value}, cellsRep w I tk t x cs → cs.length = t.size := by
  intro t
  induction t with
  | int k => intro x cs h; simp only [cellsRep] at h; subst h; rfl
  | bool => intro x cs h; simp only [cellsRep] at h; subst h; rfl
  | str => intro x cs h; simp only [cellsRep] at h; subst h; rfl
  | flt => intro x cs h; simp only [cellsRep] at h; subst h; rfl
  | unit => intro x cs h; simp only [cellsRep] at h; subst h; rfl
  | eos u => intro x cs h; simp only [cellsRep] at h; subst h; rfl
  | pair a b iha ihb =>
    intro x cs h
    simp only [cellsRep] at h
    obtain ⟨c1, c2, rfl, h1, h2⟩ := h
    simp [Ty.size, iha h1, ihb h2]
  | arr n t ih => intro x cs h; simp only [cellsRep] at h; simpa [Ty.size] using h.2.1
  | sl t ih => intro x cs h; simp only [cellsRep] at h; obtain ⟨ad, cap, rfl, _⟩ := h; rfl
  | ref t ih =>
    intro x cs h
    cases x with
    | none => simp only [cellsRep] at h; rw [h]; rfl
    | some x => simp only [cellsRep] at h; obtain ⟨_, b, o, c, rfl, _⟩ := h; rfl
  | nif => intro x cs h; simp only [cellsRep] at h; subst h; rfl
  | slf => intro x cs h; simp only [cellsRep] at h; subst h; rfl
  | nsl t => intro x cs h; simp only [cellsRep] at h; subst h; rfl
  | sf s t pa =>
    intro x cs h
    simp only [cellsRep] at h
    rcases h with ⟨_, rfl⟩ | ⟨_, v, rfl, _⟩ <;> rfl
  | vw s t => intro x cs h; simp only [cellsRep] at h; obtain ⟨k, _, _, rfl⟩ := h; rfl
  | pt s t pa => intro x cs h; simp only [cellsRep] at h; obtain ⟨v, rfl, _⟩ := h; rfl
  | mp s k v => intro x cs h; simp only [cellsRep] at h; obtain ⟨q, b, _, _, _, rfl⟩ := h; rfl
  | junk t => intro x cs h; simp only [cellsRep] at h; exact h
  | dyn t => intro x cs h; simp only [cellsRep] at h
  | map k v => intro x cs h; simp only [cellsRep] at h

theorem cellsAt.of_block {w w' : World} {b o : Nat} {cs : List Value} (h : cellsAt w b o cs) (hb : w'.heap[b]? = w.heap[b]?) : cellsAt w' b o cs := by
  intro j v hj
  have := h j v hj
  unfold World.cell? at *
  simpa [hb] using this

/-- More is known of boxes. -/
def Toks.le (tk tk' : Toks) : Prop := ∀ s k, tk s = some k → tk' s = some k
theorem Toks.le.refl (tk : Toks) : tk.le tk := fun _ _ h => h
theorem ptRep.mono {tk tk' : Toks} (ht : tk.le tk') {s : Nat} {t : Ty} {pa : Path} {v : Value} (h : ptRep tk s t pa v) : ptRep tk' s t pa v := by
  obtain ⟨k, b, off, h1, h2⟩ := h
  exact ⟨k, b, off, ht _ _ h1, h2⟩

theorem cellsRep.mono {w w' : World} {I I' : Nat → Prop} {tk tk' : Toks} (hI : ∀ b, I b → I' b) (hw : ∀ b, I b → w'.heap[b]? = w.heap[b]?) (ht : tk.le tk') :
    ∀ {t : Ty} {x : t.den} {cs : List Value}, cellsRep w I tk t x cs → cellsRep w' I' tk' t x cs := by
  intro t
  induction t with
  | int k => intro x cs h; exact h
  | bool => intro x cs h; exact h
  | str => intro x cs h; exact h
  | flt => intro x cs h; exact h
  | unit => intro x cs h; exact h
  | eos u => intro x cs h; exact h
  | pair a b iha ihb =>
    intro x cs h
    simp only [cellsRep] at h ⊢
    obtain ⟨c1, c2, rfl, h1, h2⟩ := h
    exact ⟨c1, c2, rfl, iha h1, ihb h2⟩
  | arr n t ih =>
    intro x cs h
    simp only [cellsRep] at h ⊢
    exact ⟨h.1, h.2.1, fun i y hy => ih (h.2.2 i y hy)⟩
  | sl t ih =>
    intro x cs h
    simp only [cellsRep] at h ⊢
    obtain ⟨ad, cap, rfl, hcap, h⟩ := h
    refine ⟨ad, cap, rfl, hcap, h.imp id ?_⟩
    rintro ⟨hp, b, o, rfl, hb, h⟩
    refine ⟨hp, b, o, rfl, hI b hb, fun i y hy => ?_⟩
    obtain ⟨c, hc, ha⟩ := h i y hy
    exact ⟨c, ih hc, ha.of_block (hw b hb)⟩
  | ref t ih =>
    intro x cs h
    cases x with
    | none => simp only [cellsRep] at h ⊢; exact h
    | some x =>
      simp only [cellsRep] at h ⊢
      obtain ⟨hp, b, o, c, rfl, hb, hc, ha⟩ := h
      exact ⟨hp, b, o, c, rfl, hI b hb, ih hc, ha.of_block (hw b hb)⟩
  | nif => intro x cs h; exact h
  | slf => intro x cs h; exact h
  | nsl t => intro x cs h; exact h
  | sf s t pa =>
    intro x cs h
    rcases h with h | ⟨h0, v, h1, h2⟩
    · exact .inl h
    · exact .inr ⟨h0, v, h1, h2.mono ht⟩
  | vw s t => intro x cs h; simp only [cellsRep] at h ⊢; obtain ⟨k, h1, h2⟩ := h; exact ⟨k, ht _ _ h1, h2⟩
  | pt s t pa => intro x cs h; simp only [cellsRep] at h ⊢; obtain ⟨v, h1, h2⟩ := h; exact ⟨v, h1, h2.mono ht⟩
  | mp s k v => intro x cs h; simp only [cellsRep] at h ⊢; obtain ⟨q, b, h1, h2⟩ := h; exact ⟨q, b, ht _ _ h1, h2⟩
  | junk t => intro x cs h; exact h
  | dyn t => intro x cs h; simp only [cellsRep] at h
  | map k v => intro x cs h; simp only [cellsRep] at h

/-- Plain data points to no box. -/
theorem cellsRep.plain {w : World} {I : Nat → Prop} {tk tk' : Toks} : ∀ {t : Ty} {x : t.den} {cs : List Value}, t.plain = true → cellsRep w I tk t x cs → cellsRep w I tk' t x cs := by
  intro t
  induction t with
  | int k => intro x cs _ h; exact h
  | bool => intro x cs _ h; exact h
  | str => intro x cs _ h; exact h
  | flt => intro x cs _ h; exact h
  | unit => intro x cs _ h; exact h
  | eos u => intro x cs _ h; exact h
  | pair a b iha ihb =>
    intro x cs hp h
    simp only [Ty.plain, Bool.and_eq_true] at hp
    obtain ⟨c1, c2, e, h1, h2⟩ := h
    exact ⟨c1, c2, e, iha hp.1 h1, ihb hp.2 h2⟩
  | arr n t ih =>
    intro x cs hp h
    obtain ⟨h1, h2, h3⟩ := h
    exact ⟨h1, h2, fun i y hy => ih hp (h3 i y hy)⟩
  | sl t ih =>
    intro x cs hp h
    obtain ⟨ad, cap, e, hcap, h⟩ := h
    refine ⟨ad, cap, e, hcap, h.imp id ?_⟩
    rintro ⟨hq, b, o, e, hb, h⟩
    refine ⟨hq, b, o, e, hb, fun i y hy => ?_⟩
    obtain ⟨c, hc, ha⟩ := h i y hy
    exact ⟨c, ih hq hc, ha⟩
  | ref t ih =>
    intro x cs hp h
    cases x with
    | none => exact h
    | some x =>
      obtain ⟨hq, b, o, c, e, hb, hc, ha⟩ := h
      exact ⟨hq, b, o, c, e, hb, ih hq hc, ha⟩
  | nif => intro x cs hp h; exact h
  | slf => intro x cs hp h; exact h
  | nsl t => intro x cs hp h; cases hp
  | sf s t pa => intro x cs hp h; cases hp
  | vw s t => intro x cs hp h; cases hp
  | pt s t pa => intro x cs hp h; cases hp
  | mp s k v => intro x cs hp h; cases hp
  | junk t => intro x cs hp h; cases hp
  | dyn t => intro x cs hp h; cases hp
  | map k v => intro x cs hp h; cases hp

theorem cellsRep.toksSl {w : World} {I : Nat → Prop} {tk tk' : Toks} {t : Ty} {x : List t.den} {cs : List Value} (h : cellsRep w I tk (.sl t) x cs) : cellsRep w I tk' (.sl t) x cs := by
  obtain ⟨ad, cap, e, hcap, h⟩ := h
  refine ⟨ad, cap, e, hcap, h.imp id ?_⟩
  rintro ⟨hq, b, o, e, hb, h⟩
  refine ⟨hq, b, o, e, hb, fun i y hy => ?_⟩
  obtain ⟨c, hc, ha⟩ := h i y hy
  exact ⟨c, hc.plain hq, ha⟩
theorem cellsRep.toksRef {w : World} {I : Nat → Prop} {tk tk' : Toks} {t : Ty} {x : Option t.den} {cs : List Value} (h : cellsRep w I tk (.ref t) x cs) : cellsRep w I tk' (.ref t) x cs := by
  cases x with
  | none => exact h
  | some x =>
    obtain ⟨hq, b, o, c, e, hb, hc, ha⟩ := h
    exact ⟨hq, b, o, c, e, hb, hc.plain hq, ha⟩

/-- The boxes to which a type points. -/
def mentions : Ty → List Nat
  | .pair a b => mentions a ++ mentions b
  | .arr _ t => mentions t
  | .sf s _ _ => [s]
  | .vw s _ => [s]
  | .pt s _ _ => [s]
  | .mp s _ _ => [s]
  | _ => []
/-- Only what is known of the boxes to which a type points matters. -/
theorem cellsRep.congr {w : World} {I : Nat → Prop} {tk tk' : Toks} : ∀ {t : Ty} {x : t.den} {cs : List Value}, (∀ s, s ∈ mentions t → tk' s = tk s) → cellsRep w I tk t x cs → cellsRep w I tk' t x cs := by
  intro t
  induction t with
  | int k => intro x cs _ h; exact h
  | bool => intro x cs _ h; exact h
  | str => intro x cs _ h; exact h
  | flt => intro x cs _ h; exact h
  | unit => intro x cs _ h; exact h
  | eos u => intro x cs _ h; exact h
  | pair a b iha ihb =>
    intro x cs hm h
    obtain ⟨c1, c2, e, h1, h2⟩ := h
    exact ⟨c1, c2, e, iha (fun s hs => hm s (List.mem_append_left _ hs)) h1, ihb (fun s hs => hm s (List.mem_append_right _ hs)) h2⟩
  | arr n t ih =>
    intro x cs hm h
    obtain ⟨h1, h2, h3⟩ := h
    exact ⟨h1, h2, fun i y hy => ih hm (h3 i y hy)⟩
  | sl t ih => intro x cs _ h; exact h.toksSl
  | ref t ih => intro x cs _ h; exact h.toksRef
  | nif => intro x cs _ h; exact h
  | slf => intro x cs _ h; exact h
  | nsl t => intro x cs _ h; exact h
  | sf s t pa =>
    intro x cs hm h
    rcases h with h | ⟨h0, v, h1, k, b, off, h2, h3⟩
    · exact .inl h
    · exact .inr ⟨h0, v, h1, k, b, off, (hm s (by simp [mentions])).trans h2, h3⟩
  | vw s t => intro x cs hm h; obtain ⟨k, h1, h2⟩ := h; exact ⟨k, (hm s (by simp [mentions])).trans h1, h2⟩
  | pt s t pa => intro x cs hm h; obtain ⟨v, h1, k, b, off, h2, h3⟩ := h; exact ⟨v, h1, k, b, off, (hm s (by simp [mentions])).trans h2, h3⟩
  | mp s k v => intro x cs hm h; obtain ⟨q, b, h1, h2⟩ := h; exact ⟨q, b, (hm s (by simp [mentions])).trans h1, h2⟩
  | junk t => intro x cs _ h; exact h
  | dyn t => intro x cs _ h; exact h
  | map k v => intro x cs _ h; exact h

/-- A value reads as data. -/
def valRep (w : World) (I : Nat → Prop) (tk : Toks) (t : Ty) (x : t.den) (v : Value) : Prop :=
  if t.isAgg then ∃ cs : Array Value, v = .agg cs ∧ cellsRep w I tk t x cs.toList else cellsRep w I tk t x [v]

theorem valRep.mono {w w' : World} {I I' : Nat → Prop} {tk tk' : Toks} (hI : ∀ b, I b → I' b) (hw : ∀ b, I b → w'.heap[b]? = w.heap[b]?) (ht : tk.le tk')
    {t : Ty} {x : t.den} {v : Value} (h : valRep w I tk t x v) : valRep w' I' tk' t x v := by
  unfold valRep at *
  split
  · rename_i ht'
    simp only [ht', if_true] at h
    obtain ⟨cs, rfl, h⟩ := h
    exact ⟨cs, rfl, h.mono hI hw ht⟩
  · rename_i ht'
    simp only [ht'] at h
    exact cellsRep.mono hI hw ht h

end Go.Own

/- A program's types as data types. -/
namespace Go.Own

/-- The data type of a program's type. -/
def tyFields (tyf : TypeId → Option Ty) (fin : Ty) : List Field → Nat → Option Ty
  | [], _ => some fin
  | f :: fs, off =>
    if f.offset = off then
      match tyf f.type with
      | some a => match tyFields tyf fin fs (off + a.size) with
        | some b => some (.pair a b)
        | none => none
      | none => none
    else none

/-- The zero value's cells. -/
def Ty.zcells : Ty → List Value
  | .int k => [.int k 0]
  | .bool => [.bool false]
  | .str => [.string ⟨#[]⟩]
  | .flt => [.float .f64 0]
  | .unit => []
  | .eos _ => []
  | .pair a b => a.zcells ++ b.zcells
  | .arr n t => (List.replicate n t.zcells).flatten
  | .sl _ => [.slice none 0 0]
  | .ref _ => [.pointer none]
  | .nif => [.nilIface]
  | .slf => [.pointer none]
  | .mp _ _ _ => [.map none]
  | _ => []

def zeroCell : Value → Value → Bool
  | .int k a, .int k' b => decide (k = k') && decide (a = b)
  | .bool a, .bool b => a == b
  | .string a, .string b => a.data.toList.isEmpty && b.data.toList.isEmpty
  | .float .f64 a, .float .f64 b => a == b
  | .slice none 0 0, .slice none 0 0 => true
  | .pointer none, .pointer none => true
  | .map none, .map none => true
  | .nilIface, .nilIface => true
  | _, _ => false
def zeroCells : List Value → List Value → Bool
  | [], [] => true
  | a :: as, b :: bs => zeroCell a b && zeroCells as bs
  | _, _ => false

def aggV : Value → Bool
  | .agg _ => true
  | _ => false
/-- The type's size, and its zero value. -/
def infoOK (P : Program) (T : TypeId) (t : Ty) : Bool :=
  match P.info? T with
  | some i => i.size == t.size && match i.zero with | some z => zeroCells z.cells.toList t.zcells && aggV z == t.isAgg | none => false
  | none => false

def okTy (P : Program) (T : TypeId) (t : Ty) : Option Ty := bif infoOK P T t then some t else none

/-- Has a struct a field that points to a type which is not covered? -/
def hasSlf : Ty → Bool
  | .pair .slf _ => true
  | .pair _ b => hasSlf b
  | _ => false
def noBlank (fs : Array Field) : Bool := fs.toList.all fun f => !decide (f.name = "_")
/-- `seen`: the structs in which it stands: pointers to them are not covered. -/
def tyOf (P : Program) : Nat → List TypeId → TypeId → Option Ty
  | 0, _, _ => none
  | n + 1, seen, T =>
    match P.underlying T with
    | some (.int k) => okTy P T (.int k)
    | some .bool => okTy P T .bool
    | some .string => okTy P T .str
    | some (.float .f64) => okTy P T .flt
    | some (.interface _) => okTy P T .nif
    | some (.array m e) => match tyOf P n seen e with | some a => okTy P T (.arr m a) | none => none
    | some (.struct fs) => match tyFields (tyOf P n (P.underlyingId T :: seen)) .unit fs.toList 0 with
      | some a => bif P.stoodInHeld T || !noBlank fs then none else
        bif hasSlf a then (match tyFields (tyOf P n (P.underlyingId T :: seen)) (.eos (P.underlyingId T)) fs.toList 0 with | some a => okTy P T a | none => none) else okTy P T a
      | none => none
    | some (.slice e) => match tyOf P n seen e with | some a => okTy P T (.sl a) | none => none
    | some (.pointer e) => bif seen.any (Nat.beq (P.underlyingId e)) then okTy P T .slf else match tyOf P n seen e with | some a => okTy P T (.ref a) | none => okTy P T .slf
    | some (.map k e) => match tyOf P n seen k, tyOf P n seen e with | some a, some b => okTy P T (.mp 0 a b) | _, _ => none
    | _ => none

end Go.Own

/- What a data type says of the program's type. -/
namespace Go.Own

/-- A type's size, and its zero value. -/
structure Base (P : Program) (T : TypeId) (t : Ty) : Prop where
  size : (P.info? T).map (·.size) = some t.size
  zero : ∃ i z, P.info? T = some i ∧ i.zero = some z ∧ z.cells.toList = t.zcells
  agg : ∀ i z, P.info? T = some i → i.zero = some z → aggV z = t.isAgg

/-- What a struct's end tells. -/
def eosOf : Ty → Option Nat
  | .pair _ b => eosOf b
  | .eos u => some u
  | _ => none
def tyAF (P : Program) : Ty → (TypeId → Prop) × (List Field → Nat → Prop)
  | .int k => (fun T => Base P T (.int k) ∧ P.underlying T = some (.int k), fun _ _ => False)
  | .bool => (fun T => Base P T .bool ∧ P.underlying T = some .bool, fun _ _ => False)
  | .str => (fun T => Base P T .str ∧ P.underlying T = some .string, fun _ _ => False)
  | .flt => (fun T => Base P T .flt ∧ P.underlying T = some (.float .f64), fun _ _ => False)
  | .nif => (fun T => Base P T .nif ∧ ∃ ms, P.underlying T = some (.interface ms), fun _ _ => False)
  | .slf => (fun T => Base P T .slf ∧ ∃ e, P.underlying T = some (.pointer e), fun _ _ => False)
  | .unit => (fun T => Base P T .unit ∧ P.stoodInHeld T = false ∧ ∃ fs, P.underlying T = some (.struct fs) ∧ fs.toList = [], fun fs _ => fs = [])
  | .eos _ => (fun _ => False, fun fs _ => fs = [])
  | .pair a b => (fun T => Base P T (.pair a b) ∧ P.stoodInHeld T = false ∧ (∀ u, eosOf b = some u → P.underlyingId T = u) ∧ ∃ fs, P.underlying T = some (.struct fs) ∧ (∀ f ∈ fs.toList, f.name ≠ "_") ∧ ∃ f r, fs.toList = f :: r ∧ f.offset = 0 ∧ (tyAF P a).1 f.type ∧ (tyAF P b).2 r a.size,
      fun fs off => ∃ f r, fs = f :: r ∧ f.offset = off ∧ (tyAF P a).1 f.type ∧ (tyAF P b).2 r (off + a.size))
  | .arr n t => (fun T => Base P T (.arr n t) ∧ ∃ e, P.underlying T = some (.array n e) ∧ (tyAF P t).1 e, fun _ _ => False)
  | .sl t => (fun T => Base P T (.sl t) ∧ ∃ e, P.underlying T = some (.slice e) ∧ (tyAF P t).1 e, fun _ _ => False)
  | .ref t => (fun T => Base P T (.ref t) ∧ ∃ e, P.underlying T = some (.pointer e) ∧ (tyAF P t).1 e, fun _ _ => False)
  | .mp s k v => (fun T => Base P T (.mp s k v) ∧ s = 0 ∧ ∃ a b, P.underlying T = some (.map a b) ∧ (tyAF P k).1 a ∧ (tyAF P v).1 b, fun _ _ => False)
  | _ => (fun _ => False, fun _ _ => False)

/-- The program's type T is of this data type. -/
def TyAt (P : Program) (T : TypeId) (t : Ty) : Prop := (tyAF P t).1 T
def FieldsAt (P : Program) (fs : List Field) (off : Nat) (t : Ty) : Prop := (tyAF P t).2 fs off

theorem TyAt.base {P : Program} {T : TypeId} {t : Ty} (h : TyAt P T t) : Base P T t := by
  cases t <;> first | exact h.1 | exact h.elim

theorem zeroCell_eq {a b : Value} (h : zeroCell a b = true) : a = b := by
  unfold zeroCell at h
  split at h
  · simp at h; rw [h.1, h.2]
  · simp at h; rw [h]
  · rename_i x y
    simp only [Bool.and_eq_true, List.isEmpty_iff] at h
    cases x with | mk x => cases y with | mk y =>
    have hx : x = #[] := by simpa using h.1
    have hy : y = #[] := by simpa using h.2
    rw [hx, hy]
  · simp at h; rw [h]
  · rfl
  · rfl
  · rfl
  · rfl
  · cases h

theorem zeroCells_eq : ∀ {a b : List Value}, zeroCells a b = true → a = b
  | [], [], _ => rfl
  | a :: as, b :: bs, h => by
    simp only [zeroCells, Bool.and_eq_true] at h
    rw [zeroCell_eq h.1, zeroCells_eq h.2]
  | [], _ :: _, h => by simp [zeroCells] at h
  | _ :: _, [], h => by simp [zeroCells] at h

theorem Base.of_ok {P : Program} {T : TypeId} {t u : Ty} (h : okTy P T t = some u) : u = t ∧ Base P T t := by
  unfold okTy at h
  cases hi : infoOK P T t with
  | false => simp [hi] at h
  | true =>
    simp only [hi, cond_true, Option.some.injEq] at h
    refine ⟨h.symm, ?_⟩
    unfold infoOK at hi
    cases hq : P.info? T with
    | none => simp [hq] at hi
    | some i =>
      simp only [hq, Bool.and_eq_true, beq_iff_eq] at hi
      cases hz : i.zero with
      | none => simp [hz] at hi
      | some z =>
        simp only [hz, Bool.and_eq_true, beq_iff_eq] at hi
        refine ⟨by simp [hq, hi.1], ⟨i, z, hq, hz, zeroCells_eq hi.2.1⟩, ?_⟩
        intro i' z' h1 h2
        rw [hq] at h1
        cases h1
        rw [hz] at h2
        cases h2
        exact hi.2.2

theorem tyFields_at {P : Program} {f : TypeId → Option Ty} (hf : ∀ T t, f T = some t → TyAt P T t) {fin : Ty} (hfin : fin = .unit ∨ ∃ u, fin = .eos u) :
    ∀ {fs : List Field} {off : Nat} {t : Ty}, tyFields f fin fs off = some t → FieldsAt P fs off t ∧ eosOf t = eosOf fin := by
  intro fs
  induction fs with
  | nil =>
    intro off t h
    simp only [tyFields, Option.some.injEq] at h
    subst h
    rcases hfin with rfl | ⟨u, rfl⟩ <;> exact ⟨by simp [FieldsAt, tyAF], rfl⟩
  | cons g r ih =>
    intro off t h
    simp only [tyFields] at h
    split at h
    · rename_i ho
      cases ha : f g.type with
      | none => simp [ha] at h
      | some a =>
        simp only [ha] at h
        cases hb : tyFields f fin r (off + a.size) with
        | none => simp [hb] at h
        | some b =>
          simp only [hb, Option.some.injEq] at h
          subst h
          obtain ⟨h1, h2⟩ := ih hb
          exact ⟨⟨g, r, rfl, ho, hf _ _ ha, h1⟩, h2⟩
    · cases h

theorem tyStruct_at {P : Program} {f : TypeId → Option Ty} (hf : ∀ T t, f T = some t → TyAt P T t) {fin : Ty} {T : TypeId} (hfin : fin = .unit ∨ fin = .eos (P.underlyingId T) ∧ (∃ a b, ∃ off, tyFields f .unit off 0 = some (.pair a b)))
    {fs : Array Field} {t : Ty} (hu : P.underlying T = some (.struct fs)) (hst : P.stoodInHeld T = false) (hnb : noBlank fs = true) (h : tyFields f fin fs.toList 0 = some t) (hb : Base P T t) (hne : fin ≠ .unit → fs.toList ≠ []) : TyAt P T t := by
  have hbl : ∀ f ∈ fs.toList, f.name ≠ "_" := by
    intro g hg
    have := List.all_eq_true.1 hnb g hg
    simpa using this
  obtain ⟨h1, h2⟩ := tyFields_at hf (hfin.imp id fun h => ⟨_, h.1⟩) h
  cases hfs : fs.toList with
  | nil =>
    rw [hfs] at h
    simp only [tyFields, Option.some.injEq] at h
    subst h
    by_cases hu' : fin = .unit
    · subst hu'; exact ⟨hb, hst, fs, hu, hfs⟩
    · exact absurd hfs (hne hu')
  | cons g r =>
    rw [hfs] at h h1
    simp only [tyFields] at h
    split at h
    · cases ha : f g.type with
      | none => simp [ha] at h
      | some a =>
        simp only [ha] at h
        cases hb' : tyFields f fin r (0 + a.size) with
        | none => rw [hb'] at h; cases h
        | some b =>
          simp only [hb', Option.some.injEq] at h
          subst h
          obtain ⟨g', r', e, ho, h3, h4⟩ := h1
          refine ⟨hb, hst, ?_, fs, hu, hbl, g', r', ?_, ho, h3, ?_⟩
          · intro u hu2
            have hu3 : eosOf (.pair a b) = some u := hu2
            rw [h2] at hu3
            rcases hfin with rfl | ⟨rfl, _⟩
            · cases hu3
            · simpa [eosOf] using hu3
          · rw [hfs, e]
          · simpa [FieldsAt] using h4
    · cases h

theorem tyOf_at {P : Program} : ∀ {n : Nat} {seen : List TypeId} {T : TypeId} {t : Ty}, tyOf P n seen T = some t → TyAt P T t := by
  intro n
  induction n with
  | zero => intro seen T t h; simp [tyOf] at h
  | succ n ih =>
    intro seen T t h
    simp only [tyOf] at h
    split at h
    case h_1 k hu => obtain ⟨rfl, hb⟩ := Base.of_ok h; exact ⟨hb, hu⟩
    case h_2 hu => obtain ⟨rfl, hb⟩ := Base.of_ok h; exact ⟨hb, hu⟩
    case h_3 hu => obtain ⟨rfl, hb⟩ := Base.of_ok h; exact ⟨hb, hu⟩
    case h_4 hu => obtain ⟨rfl, hb⟩ := Base.of_ok h; exact ⟨hb, hu⟩
    case h_5 ms hu => obtain ⟨rfl, hb⟩ := Base.of_ok h; exact ⟨hb, ms, hu⟩
    case h_6 m e hu =>
      cases he : tyOf P n seen e with
      | none => simp [he] at h
      | some a => simp only [he] at h; obtain ⟨rfl, hb⟩ := Base.of_ok h; exact ⟨hb, e, hu, ih he⟩
    case h_7 fs hu =>
      have hf : ∀ T' t', tyOf P n (P.underlyingId T :: seen) T' = some t' → TyAt P T' t' := fun T' t' => ih
      cases he : tyFields (tyOf P n (P.underlyingId T :: seen)) .unit fs.toList 0 with
      | none => simp [he] at h
      | some a =>
        simp only [he] at h
        cases hst : P.stoodInHeld T || !noBlank fs with
        | true => rw [hst] at h; cases h
        | false =>
          rw [hst] at h
          simp only [Bool.or_eq_false_iff, Bool.not_eq_eq_eq_not, Bool.not_false] at hst
          simp only [cond_false] at h
          cases hs : hasSlf a with
          | false =>
            rw [hs] at h
            simp only [cond_false] at h
            obtain ⟨rfl, hb⟩ := Base.of_ok h
            exact tyStruct_at hf (.inl rfl) hu hst.1 hst.2 he hb (fun h => absurd rfl h)
          | true =>
            rw [hs] at h
            simp only [cond_true] at h
            obtain ⟨x, y, rfl⟩ : ∃ x y, a = .pair x y := by cases a <;> first | cases hs; done | exact ⟨_, _, rfl⟩
            cases he2 : tyFields (tyOf P n (P.underlyingId T :: seen)) (.eos (P.underlyingId T)) fs.toList 0 with
            | none => simp [he2] at h
            | some a2 =>
              simp only [he2] at h
              obtain ⟨rfl, hb⟩ := Base.of_ok h
              refine tyStruct_at hf (.inr ⟨rfl, x, y, fs.toList, he⟩) hu hst.1 hst.2 he2 hb ?_
              intro _ h0
              rw [h0] at he
              simp [tyFields] at he
      
    case h_8 e hu =>
      cases he : tyOf P n seen e with
      | none => simp [he] at h
      | some a => simp only [he] at h; obtain ⟨rfl, hb⟩ := Base.of_ok h; exact ⟨hb, e, hu, ih he⟩
    case h_9 e hu =>
      cases hs : seen.any (Nat.beq (P.underlyingId e)) with
      | true => rw [hs] at h; obtain ⟨rfl, hb⟩ := Base.of_ok h; exact ⟨hb, e, hu⟩
      | false =>
        rw [hs] at h
        simp only [cond_false] at h
        cases he : tyOf P n seen e with
        | none => simp only [he] at h; obtain ⟨rfl, hb⟩ := Base.of_ok h; exact ⟨hb, e, hu⟩
        | some a => simp only [he] at h; obtain ⟨rfl, hb⟩ := Base.of_ok h; exact ⟨hb, e, hu, ih he⟩
    case h_10 a b hu =>
      cases ha : tyOf P n seen a with
      | none => simp [ha] at h
      | some k =>
        cases hb : tyOf P n seen b with
        | none => simp [ha, hb] at h
        | some v => simp only [ha, hb] at h; obtain ⟨rfl, hb'⟩ := Base.of_ok h; exact ⟨hb', rfl, a, b, hu, ih ha, ih hb⟩
    case h_11 => cases h

/-- How deep a type nests. -/
def Ty.lev : Ty → Nat
  | .pair a b => max (a.lev + 1) b.lev
  | .arr _ t => t.lev + 1
  | .sl t => t.lev + 1
  | .ref t => t.lev + 1
  | .mp _ k v => max k.lev v.lev + 1
  | _ => 1

end Go.Own

/- The second abstract interpreter: data in slots; own arrays, structs and maps in boxes. -/
namespace Go.Own

/-- Data with its type. -/
abbrev DV := (t : Ty) × t.den

def getP : (t : Ty) → t.den → Path → Option DV
  | t, x, [] => some ⟨t, x⟩
  | .pair a _, x, .fst :: p => getP a x.1 p
  | .pair _ b, x, .snd :: p => getP b x.2 p
  | .arr _ t, l, .ix i :: p => getP t (l.getD i t.dflt) p
  | .dyn t, l, .ix i :: p => getP t (l.2.getD i t.dflt) p
  | .arr _ t, l, .sub lo n :: p => getP (.arr n t) (((l : List t.den).drop lo).take n) p
  | .dyn t, l, .sub lo n :: p => getP (.arr n t) ((l.2.drop lo).take n) p
  | _, _, _ => none

/-- A part is set; a struct's field may change its type. -/
def setP : (t : Ty) → t.den → Path → DV → Option DV
  | _, _, [], d => some d
  | .pair a b, x, .fst :: p, d => (setP a x.1 p d).map fun z => ⟨.pair z.1 b, (z.2, x.2)⟩
  | .pair a b, x, .snd :: p, d => (setP b x.2 p d).map fun z => ⟨.pair a z.1, (x.1, z.2)⟩
  | .arr n t, l, .ix i :: p, d => (setP t (l.getD i t.dflt) p d).bind fun z => if h : z.1 = t then some ⟨.arr n t, l.set i (h ▸ z.2)⟩ else none
  | .dyn t, l, .ix i :: p, d => (setP t (l.2.getD i t.dflt) p d).bind fun z => if h : z.1 = t then some ⟨.dyn t, (l.1, l.2.set i (h ▸ z.2))⟩ else none
  | _, _, _, _ => none

/-- What a slot holds. -/
inductive SV where
  | p (d : DV)                                   -- pure data
  | sd (d : DV)                                  -- data parts of which point to boxes
  | va (s : Nat) (t : Ty)                        -- the whole slice of box s, of elements t
  | vs (s : Nat) (t : Ty) (pa : Path) (lo n : Nat) -- a part of the array at pa of box s, of elements t
  | pb (s : Nat) (t : Ty) (pa : Path)            -- a pointer into box s, of what is of type t there
  | mp (s : Nat) (k v : Ty)                      -- the map of box s
  | ud (s : Nat) (t : Ty)                        -- where the elements of own array s are, or nil
  | nil                                          -- the nil slice
  | nilp                                         -- the nil pointer
  | nilm                                         -- the nil map
  | clo (f : FuncId) (caps : List SV)            -- a function value
  | tup (l : List SV)                            -- several results
  | dead                                         -- nothing is known
  | und                                          -- what was passed by left nothing
  deriving Inhabited

structure St where
  sl : List SV
  bx : List (Nat × DV)

def St.slot (st : St) (i : Nat) : SV := st.sl.getD i .dead
def findB : List (Nat × DV) → Nat → Option DV
  | [], _ => none
  | (i, a) :: r, n => bif Nat.beq i n then some a else findB r n
def St.box (st : St) (s : Nat) : Option DV := findB st.bx s
/-- Boxes are kept by their sites, the least one first. -/
def insB (s : Nat) (d : DV) : List (Nat × DV) → List (Nat × DV)
  | [] => [(s, d)]
  | x :: r => bif Nat.beq x.1 s then (s, d) :: r else bif Nat.blt s x.1 then (s, d) :: x :: r else x :: insB s d r
def delB (s : Nat) (l : List (Nat × DV)) : List (Nat × DV) := l.filter fun x => !Nat.beq x.1 s
def St.setBox (st : St) (s : Nat) (d : DV) : St := { st with bx := insB s d st.bx }

/-! ### A box's site is given up -/
/-- A cell of which nothing is known any more. -/
def kv (b : Bool) (u v : Ty) : Ty := bif b then .junk u else v
def kvX : (b : Bool) → (u v : Ty) → v.den → (kv b u v).den
  | true, _, _, _ => ()
  | false, _, _, x => x
def Ty.kill (s : Nat) : Ty → Ty
  | .pair a b => .pair (a.kill s) (b.kill s)
  | .arr n t => .arr n (t.kill s)
  | .sf r t pa => kv (Nat.beq r s) .slf (.sf r t pa)
  | .vw r t => kv (Nat.beq r s) (.sl t) (.vw r t)
  | .pt r t pa => kv (Nat.beq r s) (.ref t) (.pt r t pa)
  | .mp r k v => kv (Nat.beq r s) (.mp 0 k v) (.mp r k v)
  | t => t
def killX (s : Nat) : (t : Ty) → t.den → (t.kill s).den
  | .pair a b, x => (killX s a x.1, killX s b x.2)
  | .arr _ t, l => l.map (killX s t)
  | .sf r t pa, x => kvX (Nat.beq r s) .slf (.sf r t pa) x
  | .vw r t, x => kvX (Nat.beq r s) (.sl t) (.vw r t) x
  | .pt r t pa, x => kvX (Nat.beq r s) (.ref t) (.pt r t pa) x
  | .mp r k v, x => kvX (Nat.beq r s) (.mp 0 k v) (.mp r k v) x
  | .int _, x => x
  | .bool, x => x
  | .str, x => x
  | .flt, x => x
  | .unit, x => x
  | .eos _, x => x
  | .sl _, x => x
  | .ref _, x => x
  | .nif, x => x
  | .slf, x => x
  | .nsl _, x => x
  | .junk _, x => x
  | .dyn _, x => x
  | .map _ _, x => x
def DV.kill (s : Nat) (d : DV) : DV := ⟨d.1.kill s, killX s d.1 d.2⟩
def SV.kill1 (s : Nat) : SV → SV
  | .sd d => .sd (DV.kill s d)
  | .va r t => bif Nat.beq r s then .dead else .va r t
  | .vs r t pa lo n => bif Nat.beq r s then .dead else .vs r t pa lo n
  | .pb r t pa => bif Nat.beq r s then .dead else .pb r t pa
  | .mp r k v => bif Nat.beq r s then .dead else .mp r k v
  | .ud r t => bif Nat.beq r s then .dead else .ud r t
  | v => v
/-- What was taken along, and one of several results, is no function value and no tuple itself. -/
def SV.kill (s : Nat) : SV → SV
  | .clo f caps => .clo f (caps.map (SV.kill1 s))
  | .tup l => .tup (l.map (SV.kill1 s))
  | v => v.kill1 s
def St.kill (s : Nat) (st : St) : St := ⟨st.sl.map (SV.kill s), st.bx.map fun x => (x.1, DV.kill s x.2)⟩

/-! ### A box is frozen -/
/-- May it be frozen as it is? -/
def DV.frzOK (d : DV) : Bool := match d.1 with
  | .dyn t => t.plain
  | t => t.plain
/-- The elements of a slice, or of an array. -/
def elemsOf : DV → Option ((t : Ty) × List t.den)
  | ⟨.dyn t, x⟩ => some ⟨t, x.2⟩
  | ⟨.arr _ t, l⟩ => some ⟨t, l⟩
  | _ => none
/-- Data parts of which point to boxes, or to none. -/
def mkS (d : DV) : SV := bif d.1.plain then .p d else .sd d
/-- Types that point to box s turn to frozen data. -/
def frzX (s : Nat) (c : DV) : (t : Ty) → t.den → DV
  | .pair a b, x => ⟨.pair (frzX s c a x.1).1 (frzX s c b x.2).1, ((frzX s c a x.1).2, (frzX s c b x.2).2)⟩
  | .vw r t, x => bif Nat.beq r s then (match elemsOf c with | some x => ⟨.sl x.1, x.2⟩ | none => ⟨.junk (.sl t), ()⟩) else ⟨.vw r t, x⟩
  | .pt r t pa, x => bif Nat.beq r s then (match getP c.1 c.2 pa with | some x => bif x.1.plain then ⟨.ref x.1, some x.2⟩ else ⟨.junk (.ref t), ()⟩ | none => ⟨.junk (.ref t), ()⟩) else ⟨.pt r t pa, x⟩
  | .mp r k v, x => bif Nat.beq r s then ⟨.junk (.mp 0 k v), ()⟩ else ⟨.mp r k v, x⟩
  | .sf r t pa, x => bif Nat.beq r s then ⟨.junk .slf, ()⟩ else ⟨.sf r t pa, x⟩
  | .arr n t, x => DV.kill s ⟨.arr n t, x⟩
  | t, x => ⟨t, x⟩
def SV.frz1 (s : Nat) (c : DV) : SV → SV
  | .sd d => bif (mentions d.1).any (Nat.beq s) then mkS (frzX s c d.1 d.2) else .sd d
  | .va r t => bif Nat.beq r s then (match elemsOf c with | some x => .p ⟨.sl x.1, x.2⟩ | none => .dead) else .va r t
  | .vs r t pa lo n => bif Nat.beq r s then (match (getP c.1 c.2 pa).bind elemsOf with | some x => .p ⟨.sl x.1, (x.2.drop lo).take n⟩ | none => .dead) else .vs r t pa lo n
  | .pb r t pa => bif Nat.beq r s then (match getP c.1 c.2 pa with | some x => bif x.1.plain then .p ⟨.ref x.1, some x.2⟩ else .dead | none => .dead) else .pb r t pa
  | .mp r k v => bif Nat.beq r s then .dead else .mp r k v
  | .ud r t => bif Nat.beq r s then .dead else .ud r t
  | v => v
def SV.frz (s : Nat) (c : DV) : SV → SV
  | .clo f caps => .clo f (caps.map (SV.frz1 s c))
  | .tup l => .tup (l.map (SV.frz1 s c))
  | v => v.frz1 s c
def St.freezeC (s : Nat) (c : DV) (st : St) : St := ⟨st.sl.map (SV.frz s c), delB s (st.bx.map fun x => (x.1, frzX s c x.2.1 x.2.2))⟩

/-- The sites from which values come. -/
def SV.sites : SV → List Nat
  | .sd d => mentions d.1
  | .va s _ => [s]
  | .vs s _ _ _ _ => [s]
  | .pb s _ _ => [s]
  | .mp s _ _ => [s]
  | .ud s _ => [s]
  | _ => []
def SV.sites1 : SV → List Nat
  | .clo _ caps => caps.flatMap SV.sites
  | .tup l => l.flatMap SV.sites
  | v => v.sites
def disj (a b : List Nat) : Bool := a.all fun x => !b.any (Nat.beq x)

/-- Neither an own array nor a map. -/
def Ty.isTop : Ty → Bool
  | .dyn _ => true
  | .map _ _ => true
  | _ => false
/-! ### Nil slices as data -/
def dz : (t : Ty) → t.den → DV
  | .pair a b, x => ⟨.pair (dz a x.1).1 (dz b x.2).1, ((dz a x.1).2, (dz b x.2).2)⟩
  | .nsl t, _ => ⟨.sl t, []⟩
  | t, x => ⟨t, x⟩

end Go.Own
