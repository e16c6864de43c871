/- The abstract machine's states over a world, and their small laws. -/
import Derived.Test.YtpggklkofilmfaaAbDefs
import Derived.WalkKit
set_option linter.unusedSimpArgs false
set_option linter.unusedVariables false
namespace Go
namespace Ab

/-! ### Frames -/
theorem beq_true {i j : Nat} (h : Nat.beq i j = true) : i = j := Nat.eq_of_beq_eq_true h
theorem beq_false {i j : Nat} (h : Nat.beq i j = false) : i ≠ j := Nat.ne_of_beq_eq_false h

structure SlOk (n : Nat) (s : Sl) (a : Act) : Prop where
  size : a.tmps.size = n
  get : ∀ i v, s.get i = some v → a.tmps[i]? = some v.den ∧ v.ok

theorem Sl.get_cons (i j : Nat) (v : SV) (r : Sl) : Sl.get i ((j, v) :: r) = if i = j then some v else Sl.get i r := by
  simp only [Sl.get]
  split
  · rename_i h; rw [if_pos (beq_true h)]
  · rename_i h; rw [if_neg (beq_false h)]

theorem Sl.get_keep (ks : List Nat) : ∀ (s : Sl) (i : Nat) (v : SV), (s.keep ks).get i = some v → s.get i = some v
  | [], i, v, h => by simp [Sl.keep, Sl.get] at h
  | (j, x) :: r, i, v, h => by
    simp only [Sl.keep] at h
    rw [Sl.get_cons]
    split at h
    · rw [Sl.get_cons] at h
      split
      · rename_i hij; rw [if_pos hij] at h; exact h
      · rename_i hij; rw [if_neg hij] at h; exact Sl.get_keep ks r i v h
    · rename_i he
      split
      · rename_i hij
        subst hij
        have : ∀ (t : Sl), (t.keep ks).get i = some v → False := by
          intro t
          induction t with
          | nil => intro h; simp [Sl.keep, Sl.get] at h
          | cons y t ih =>
            obtain ⟨k, y⟩ := y
            intro h
            simp only [Sl.keep] at h
            split at h
            · rename_i hk
              rw [Sl.get_cons] at h
              split at h
              · rename_i hik; subst hik; rw [he] at hk; cases hk
              · exact ih h
            · exact ih h
        exact (this r h).elim
      · exact Sl.get_keep ks r i v h

theorem SlOk.keep {n : Nat} {s : Sl} {a : Act} (h : SlOk n s a) (ks : List Nat) : SlOk n (s.keep ks) a :=
  ⟨h.size, fun i v hg => h.get i v (Sl.get_keep ks s i v hg)⟩

theorem SlOk.eval {n : Nat} {s : Sl} {a : Act} (h : SlOk n s a) {x : Operand} {v : SV} (hx : opd s x = some v) : a.eval x = v.den := by
  cases x with
  | tmp t =>
    have := (h.get t v hx).1
    simp [Act.eval, Array.getD_eq_getD_getElem?, this]
  | const c =>
    simp only [opd] at hx
    cases c <;> simp only [ofValue, Option.some.injEq] at hx
    case agg cs =>
      split at hx
      · cases hx; simp [Act.eval, SV.den, Cel.vals, valsOf, List.flatMap_map]
      · cases hx
    all_goals (subst hx; rfl)
  | global g => simp only [opd, Option.some.injEq] at hx; subst hx; rfl
  | func f => simp only [opd, Option.some.injEq] at hx; subst hx; rfl

theorem SlOk.ok {n : Nat} {s : Sl} {a : Act} (h : SlOk n s a) {x : Operand} {v : SV} (hx : opd s x = some v) : v.ok := by
  cases x with
  | tmp t => exact (h.get t v hx).2
  | const c =>
    simp only [opd] at hx
    cases c <;> simp only [ofValue, Option.some.injEq] at hx
    case agg cs =>
      split at hx
      · rename_i hall
        cases hx
        intro x hx
        simp only [List.mem_map] at hx
        obtain ⟨y, hy, rfl⟩ := hx
        exact List.all_eq_true.1 hall y hy
      · cases hx
    all_goals (subst hx; trivial)
  | global g => simp only [opd, Option.some.injEq] at hx; subst hx; trivial
  | func f => simp only [opd, Option.some.injEq] at hx; subst hx; trivial
theorem SlOk.evals {n : Nat} {s : Sl} {a : Act} (h : SlOk n s a) : ∀ {xs : List Operand} {vs : List SV}, opds s xs = some vs → xs.map a.eval = vs.map SV.den
  | [], vs, hx => by simp only [opds, Option.some.injEq] at hx; subst hx; rfl
  | x :: r, vs, hx => by
    simp only [opds] at hx
    split at hx
    · rename_i v l h1 h2
      simp only [Option.some.injEq] at hx
      subst hx
      simp [h.eval h1, h.evals h2]
    · cases hx

theorem SlOk.oks {n : Nat} {s : Sl} {a : Act} (h : SlOk n s a) : ∀ {xs : List Operand} {vs : List SV}, opds s xs = some vs → ∀ v ∈ vs, v.ok
  | [], vs, hx => by simp only [opds, Option.some.injEq] at hx; subst hx; simp
  | x :: r, vs, hx => by
    simp only [opds] at hx
    split at hx
    · rename_i v l h1 h2
      simp only [Option.some.injEq] at hx
      subst hx
      intro y hy
      simp only [List.mem_cons] at hy
      rcases hy with rfl | hy
      · exact h.ok h1
      · exact h.oks h2 y hy
    · cases hx

theorem SlOk.put {n : Nat} {s : Sl} {a : Act} (h : SlOk n s a) {d : Option Nat} (hd : ∀ k, d = some k → k < n) {v : SV} (hv : v.ok) : SlOk n (s.setD d v) (a.put d v.den) := by
  cases d with
  | none => exact h
  | some d =>
    have hlt := hd d rfl
    refine ⟨by simp [Act.put, h.size], fun i x hg => ?_⟩
    simp only [Sl.setD] at hg
    rw [Sl.get_cons] at hg
    split at hg
    · rename_i hi
      subst hi
      cases hg
      exact ⟨by simp [Act.put, h.size, hlt], hv⟩
    · rename_i hi
      have := h.get i x hg
      simp only [Act.put]
      rw [Array.getElem?_setIfInBounds_ne (by omega)]
      exact this

theorem SlOk.override {n : Nat} {s : Sl} {a : Act} (h : SlOk n s a) {d : Nat} {v v' : SV} (hg : s.get d = some v) (hv : v.den = v'.den) (hok : v'.ok) : SlOk n ((d, v') :: s) a :=
  ⟨h.size, fun i x hi => by
    rw [Sl.get_cons] at hi
    split at hi
    · rename_i h'; subst h'; cases hi; rw [← hv]; exact ⟨(h.get _ v hg).1, hok⟩
    · exact h.get i x hi⟩

/-! ### Heaps -/
theorem Hp.get_put (t : Nat) (b : Blk) (c : Cont) : ∀ (h : Hp) (t' : Nat), (h.put t b c).get t' = if t' = t then some (b, c) else h.get t'
  | [], t' => by
    simp only [Hp.put, Hp.get]
    split
    · rename_i h; rw [if_pos (beq_true h)]
    · rename_i h; rw [if_neg (beq_false h)]
  | (k, b', c') :: r, t' => by
    simp only [Hp.put]
    split
    · rename_i h
      have := beq_true h
      subst this
      simp only [Hp.get]
      split
      · rename_i h; rw [if_pos (beq_true h)]
      · rename_i h; rw [if_neg (beq_false h)]
    · rename_i h
      have hne := beq_false h
      simp only [Hp.get]
      split
      · rename_i h'
        have := beq_true h'
        subst this
        rw [if_neg (fun h => hne h.symm)]
      · rename_i h'
        exact Hp.get_put t b c r t'

/-- Who owns a block: a tag; or nobody writes to it, and all may read it. -/
inductive Ow where
  | tag (t : Nat)
  | ro
deriving DecidableEq
/-- What a row of tag 't' sees of a block. -/
def view (w : World) (o : Nat → Option Ow) (t : Nat) (x : Nat) : Option (Bool × Obj) := match o x with
  | none => none
  | some .ro => (w.heap[x]?).map fun y => (true, y)
  | some (.tag s) => if s = t then (w.heap[x]?).map fun y => (false, y) else none

/-- None of so many cells is frozen. -/
def Blk.free (b : Blk) (n : Nat) : Prop := ∀ i, i < n → ¬ (b.o.fr.1 ≤ b.lo + i ∧ b.lo + i < b.o.fr.2)
def Blk.obj (b : Blk) (ty : TypeId) (vs : List Value) : Obj := .cells (b.o.pre ++ (vs ++ b.o.post)).toArray ty b.o.fr
def Cont.sat (b : Blk) (x : Option (Bool × Obj)) : Cont → Prop
  | .cells ty l => (∀ c ∈ l, c.ok) ∧ (valsOf l = [] ∨ x = some (b.ro, b.obj ty (valsOf l)) ∧ b.free (valsOf l).length)
  | .void => True
  | .op p => ∃ z, x = some z ∧ p b z
theorem Cont.sat_mono {c : Cont} {b : Blk} {x y : Option (Bool × Obj)} (h : ∀ z, x = some z → y = some z) (hs : c.sat b x) : c.sat b y := by
  cases c with
  | cells ty l => exact ⟨hs.1, hs.2.imp id fun ⟨h1, h2⟩ => ⟨h _ h1, h2⟩⟩
  | void => trivial
  | op p =>
    obtain ⟨z, h1, h2⟩ := hs
    exact ⟨z, h z h1, h2⟩
/-- What a view is. -/
theorem view_some {w : World} {o : Nat → Option Ow} {t x : Nat} {z : Bool × Obj} : view w o t x = some z ↔ w.heap[x]? = some z.2 ∧ ((z.1 = true ∧ o x = some .ro) ∨ (z.1 = false ∧ o x = some (.tag t))) := by
  obtain ⟨a, y⟩ := z
  unfold view
  cases h : o x with
  | none => simp
  | some s =>
    cases s with
    | ro =>
      cases hw : w.heap[x]? with
      | none => simp
      | some y' => cases a <;> simp
    | tag s =>
      dsimp only
      by_cases e : s = t
      · subst e
        cases hw : w.heap[x]? with
        | none => simp
        | some y' => cases a <;> simp
      · rw [if_neg e]
        cases a <;> simp [e]

/-- The heap's blocks lie in the world, each with its own owner. -/
structure Own (hp : Hp) (o : Nat → Option Ow) (w : World) : Prop where
  lt : ∀ x s, o x = some s → x < w.heap.size
  sat : ∀ t b c, hp.get t = some (b, c) → c.sat b (view w o t b.n)

/-- From one world to a later one: what nobody owns is as it was; what nobody writes to, too. -/
structure Fr (w : World) (o : Nat → Option Ow) (w' : World) (o' : Nat → Option Ow) : Prop where
  size : w.heap.size ≤ w'.heap.size
  old : ∀ x, x < w.heap.size → o x = none → o' x = none ∧ w'.heap[x]? = w.heap[x]?
  ro : ∀ x, o x = some .ro → o' x = some .ro ∧ w'.heap[x]? = w.heap[x]?
  tape : w'.tape = w.tape
  os : w'.os = w.os
  out : w'.output = w.output

theorem Fr.refl (w : World) (o : Nat → Option Ow) : Fr w o w o := ⟨Nat.le_refl _, fun _ _ h => ⟨h, rfl⟩, fun _ h => ⟨h, rfl⟩, rfl, rfl, rfl⟩
theorem Fr.trans {w w' w'' : World} {o o' o'' : Nat → Option Ow} (h : Fr w o w' o') (h' : Fr w' o' w'' o'') : Fr w o w'' o'' :=
  ⟨Nat.le_trans h.size h'.size, fun x hx ho => by
    obtain ⟨h1, h2⟩ := h.old x hx ho
    obtain ⟨h3, h4⟩ := h'.old x (Nat.lt_of_lt_of_le hx h.size) h1
    exact ⟨h3, h4.trans h2⟩, fun x ho => by
    obtain ⟨h1, h2⟩ := h.ro x ho
    obtain ⟨h3, h4⟩ := h'.ro x h1
    exact ⟨h3, h4.trans h2⟩, h'.tape.trans h.tape, h'.os.trans h.os, h'.out.trans h.out⟩

/-- The same world but for the count of draws. -/
theorem Own.drew {hp : Hp} {o : Nat → Option Ow} {w : World} (h : Own hp o w) (n : Nat) : Own hp o { w with drawn := n } := ⟨h.lt, h.sat⟩
theorem Fr.drew {w : World} {o : Nat → Option Ow} {w' : World} {o' : Nat → Option Ow} (h : Fr w o w' o') (n : Nat) : Fr w o { w' with drawn := n } o' :=
  ⟨h.size, h.old, h.ro, h.tape, h.os, h.out⟩

/-- A block that is owned, as cells. -/
theorem Own.block {hp : Hp} {o : Nat → Option Ow} {w : World} (h : Own hp o w) {t : Nat} {b : Blk} {ty : TypeId} {l : List Cel} (hg : hp.get t = some (b, .cells ty l)) (hne : valsOf l ≠ []) :
    (b.ro = false → o b.n = some (.tag t)) ∧ (∀ c ∈ l, c.ok) ∧ w.heap[b.n]? = some (b.obj ty (valsOf l)) ∧ b.free (valsOf l).length := by
  obtain ⟨hok, hb⟩ := h.sat t b _ hg
  rcases hb with hb | ⟨hb, hf⟩
  · exact (hne hb).elim
  obtain ⟨h1, h2⟩ := view_some.1 hb
  refine ⟨fun hr => ?_, hok, h1, hf⟩
  rcases h2 with ⟨e, _⟩ | ⟨_, e⟩
  · have e : b.ro = true := e
    rw [hr] at e; cases e
  · exact e
theorem Own.oks {hp : Hp} {o : Nat → Option Ow} {w : World} (h : Own hp o w) {t : Nat} {b : Blk} {ty : TypeId} {l : List Cel} (hg : hp.get t = some (b, .cells ty l)) : ∀ c ∈ l, c.ok := (h.sat t b _ hg).1

theorem Blk.add_at (b : Blk) (o n : Nat) : (b.at o).add n = b.at (o + n) := by
  unfold Blk.at
  rw [Addr.add_mid, Nat.add_assoc]
theorem Blk.at_bare (n : Nat) (fr : Nat × Nat) (r : Bool) (o : Nat) : (⟨⟨n, fr, [], []⟩, r⟩ : Blk).at o = ⟨n, o, none⟩ := by simp [Blk.at, Blk.lo, Blk.n]
theorem Blk.at_new (w : World) (r : Bool) (o : Nat) : (⟨⟨w.heap.size, (0, 0), [], []⟩, r⟩ : Blk).at o = ⟨w.heap.size, o, none⟩ := Blk.at_bare _ _ _ _
/-- The next block. -/
def newB (w : World) : BlkO := ⟨w.heap.size, (0, 0), [], []⟩
theorem newB_plain (w : World) : (newB w).plain := rfl
theorem Blk.get_obj (b : Blk) (vs : List Value) {i : Nat} (hi : i < vs.length) : (b.o.pre ++ (vs ++ b.o.post))[b.lo + i]? = vs[i]? := by
  unfold Blk.lo
  rw [List.getElem?_append_right (by omega), Nat.add_sub_cancel_left, List.getElem?_append_left hi]
theorem Own.cell {hp : Hp} {o : Nat → Option Ow} {w : World} (h : Own hp o w) {t : Nat} {b : Blk} {ty : TypeId} {l : List Cel} (hg : hp.get t = some (b, .cells ty l))
    {i : Nat} {v : Value} (hv : (valsOf l)[i]? = some v) : w.cell? (b.at i) = some v := by
  obtain ⟨_, _, hb, _⟩ := h.block hg (by intro h; rw [h] at hv; simp at hv)
  have hi : i < (valsOf l).length := (List.getElem?_eq_some_iff.1 hv).1
  have := b.get_obj (valsOf l) hi
  have hb' : w.heap[b.n]? = _ := hb
  simp [World.cell?, Blk.at, hb', Blk.obj, this, hv]

theorem Own.notFrozen {hp : Hp} {o : Nat → Option Ow} {w : World} (h : Own hp o w) {t : Nat} {b : Blk} {ty : TypeId} {l : List Cel} (hg : hp.get t = some (b, .cells ty l))
    {i : Nat} (hi : i < (valsOf l).length) : w.frozen? (b.at i) = false := by
  obtain ⟨_, _, hb, hf⟩ := h.block hg (by intro h; rw [h] at hi; simp at hi)
  have hf := hf i hi
  have : w.frozen? (b.at i) = (decide (b.o.fr.1 ≤ b.lo + i) && decide (b.lo + i < b.o.fr.2)) := by
    have hb' : w.heap[b.n]? = _ := hb
    simp only [World.frozen?, Blk.at, hb', Blk.obj]
    rfl
  rw [this, Bool.and_eq_false_iff, decide_eq_false_iff_not, decide_eq_false_iff_not]
  omega

def upd (o : Nat → Option Ow) (b : Nat) (t : Option Ow) : Nat → Option Ow := fun x => if x = b then t else o x

/-- Another heap that tells at least as much. -/
def Hext (h h' : Hp) : Prop := ∀ t b c, h.get t = some (b, c) → ∃ c', h'.get t = some (b, c') ∧ ∀ f, c'.sat b f → c.sat b f
theorem Hext.refl (h : Hp) : Hext h h := fun _ _ c hg => ⟨c, hg, fun _ h => h⟩
theorem Hext.trans {h h' h'' : Hp} (a : Hext h h') (b : Hext h' h'') : Hext h h'' := fun t bb c hx => by
  obtain ⟨c1, g1, e1⟩ := a t bb c hx
  obtain ⟨c2, g2, e2⟩ := b t bb c1 g1
  exact ⟨c2, g2, fun f h => e1 f (e2 f h)⟩
theorem Own.mono {h h' : Hp} (e : Hext h h') {o : Nat → Option Ow} {w : World} (hw : Own h' o w) : Own h o w := ⟨hw.lt, fun t b c hg => by
  obtain ⟨c', g, hs⟩ := e t b c hg
  exact hs _ (hw.sat t b c' g)⟩
theorem Hext.put {h : Hp} {t : Nat} (hn : h.get t = none) (b : Blk) (c : Cont) : Hext h (h.put t b c) := fun t' b' c' hx => by
  refine ⟨c', ?_, fun _ h => h⟩
  rw [Hp.get_put]
  split
  · rename_i ht; subst ht; rw [hn] at hx; cases hx
  · exact hx

/-- A new block. -/
theorem Own.alloc {h : Hp} {o : Nat → Option Ow} {w : World} (hw : Own h o w) {t : Nat} (hn : h.get t = none) {ty : TypeId} {l : List Cel} (hok : ∀ c ∈ l, c.ok)
    {fr : Nat × Nat} (hfr : fr.1 = fr.2 ∨ (valsOf l).length ≤ fr.1) :
    ∃ o', Own (h.put t ((⟨w.heap.size, fr, [], []⟩ : BlkO) : Blk) (.cells ty l)) o' { w with heap := w.heap.push (.cells (valsOf l).toArray ty fr) } ∧
      Fr w o { w with heap := w.heap.push (.cells (valsOf l).toArray ty fr) } o' := by
  refine ⟨fun x => if x = w.heap.size then some (.tag t) else if o x = some (.tag t) then none else o x, ⟨?_, ?_⟩, ⟨?_, ?_, ?_, rfl, rfl, rfl⟩⟩
  · intro x t' hx
    simp only [Array.size_push]
    split at hx
    · omega
    · split at hx
      · cases hx
      · have := hw.lt x t' hx; omega
  · intro t' b c hg
    rw [Hp.get_put] at hg
    split at hg
    · rename_i ht
      subst ht
      cases hg
      refine ⟨hok, .inr ⟨view_some.2 ⟨by simp [Blk.obj, Blk.n], .inr ⟨rfl, by simp [Blk.n]⟩⟩, fun i hi => ?_⟩⟩
      simp only [Blk.lo, List.length_nil, Nat.zero_add]
      omega
    · rename_i ht
      refine Cont.sat_mono (fun z hz => ?_) (hw.sat t' b c hg)
      obtain ⟨h1, h2⟩ := view_some.1 hz
      have hlt : b.n < w.heap.size := by
        rcases h2 with ⟨_, e⟩ | ⟨_, e⟩ <;> exact hw.lt _ _ e
      refine view_some.2 ⟨by show (w.heap.push _)[b.n]? = _; rw [Array.getElem?_push, if_neg (by omega)]; exact h1, ?_⟩
      rw [if_neg (by omega)]
      rcases h2 with ⟨e1, e⟩ | ⟨e1, e⟩
      · exact .inl ⟨e1, by rw [e]; simp⟩
      · refine .inr ⟨e1, ?_⟩
        rw [e, if_neg (by intro h; cases h; exact ht rfl)]
  · simp
  · intro x hx ho
    have : x ≠ w.heap.size := by omega
    simp only [if_neg this, ho]
    refine ⟨by simp, by simp [Array.getElem?_push_lt hx]⟩
  · intro x ho
    have hx := hw.lt x _ ho
    have : x ≠ w.heap.size := by omega
    simp only [if_neg this, ho]
    refine ⟨by simp, by simp [Array.getElem?_push_lt hx]⟩

end Ab
end Go
