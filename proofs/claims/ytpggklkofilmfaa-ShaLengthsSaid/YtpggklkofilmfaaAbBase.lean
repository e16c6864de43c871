/- The abstract machine's states over a world, and their small laws. -/
import Derived.Test.YtpggklkofilmfaaAbDefs
import Derived.WalkKit
set_option linter.unusedSimpArgs false
set_option linter.unusedVariables false
namespace Go
namespace Ab

/-! ### Frames -/
theorem beq_true {i j : Nat} (h : Nat.beq i j = true) : i = j := Nat.eq_of_beq_eq_true h
theorem beq_false {i j : Nat} (h : Nat.beq i j = false) : i ≠ j := Nat.ne_of_beq_eq_false h

structure SlOk (n : Nat) (s : Sl) (a : Act) : Prop where
  size : a.tmps.size = n
  get : ∀ i v, s.get i = some v → a.tmps[i]? = some v.den ∧ v.ok

theorem Sl.get_cons (i j : Nat) (v : SV) (r : Sl) : Sl.get i ((j, v) :: r) = if i = j then some v else Sl.get i r := by
  simp only [Sl.get]
  split
  · rename_i h; rw [if_pos (beq_true h)]
  · rename_i h; rw [if_neg (beq_false h)]

theorem Sl.get_keep (ks : List Nat) : ∀ (s : Sl) (i : Nat) (v : SV), (s.keep ks).get i = some v → s.get i = some v
  | [], i, v, h => by simp [Sl.keep, Sl.get] at h
  | (j, x) :: r, i, v, h => by
    simp only [Sl.keep] at h
    rw [Sl.get_cons]
    split at h
    · rw [Sl.get_cons] at h
      split
      · rename_i hij; rw [if_pos hij] at h; exact h
      · rename_i hij; rw [if_neg hij] at h; exact Sl.get_keep ks r i v h
    · rename_i he
      split
      · rename_i hij
        subst hij
        have : ∀ (t : Sl), (t.keep ks).get i = some v → False := by
          intro t
          induction t with
          | nil => intro h; simp [Sl.keep, Sl.get] at h
          | cons y t ih =>
            obtain ⟨k, y⟩ := y
            intro h
            simp only [Sl.keep] at h
            split at h
            · rename_i hk
              rw [Sl.get_cons] at h
              split at h
              · rename_i hik; subst hik; rw [he] at hk; cases hk
              · exact ih h
            · exact ih h
        exact (this r h).elim
      · exact Sl.get_keep ks r i v h

theorem SlOk.keep {n : Nat} {s : Sl} {a : Act} (h : SlOk n s a) (ks : List Nat) : SlOk n (s.keep ks) a :=
  ⟨h.size, fun i v hg => h.get i v (Sl.get_keep ks s i v hg)⟩

theorem SlOk.eval {n : Nat} {s : Sl} {a : Act} (h : SlOk n s a) {x : Operand} {v : SV} (hx : opd s x = some v) : a.eval x = v.den := by
  cases x with
  | tmp t =>
    have := (h.get t v hx).1
    simp [Act.eval, Array.getD_eq_getD_getElem?, this]
  | const c =>
    simp only [opd] at hx
    cases c <;> simp only [ofValue, Option.some.injEq] at hx
    case agg cs =>
      split at hx
      · cases hx; simp [Act.eval, SV.den, Cel.vals, valsOf, List.flatMap_map]
      · cases hx
    all_goals (subst hx; rfl)
  | global g => simp only [opd, Option.some.injEq] at hx; subst hx; rfl
  | func f => simp only [opd, Option.some.injEq] at hx; subst hx; rfl

theorem SlOk.ok {n : Nat} {s : Sl} {a : Act} (h : SlOk n s a) {x : Operand} {v : SV} (hx : opd s x = some v) : v.ok := by
  cases x with
  | tmp t => exact (h.get t v hx).2
  | const c =>
    simp only [opd] at hx
    cases c <;> simp only [ofValue, Option.some.injEq] at hx
    case agg cs =>
      split at hx
      · rename_i hall
        cases hx
        intro x hx
        simp only [List.mem_map] at hx
        obtain ⟨y, hy, rfl⟩ := hx
        exact List.all_eq_true.1 hall y hy
      · cases hx
    all_goals (subst hx; trivial)
  | global g => simp only [opd, Option.some.injEq] at hx; subst hx; trivial
  | func f => simp only [opd, Option.some.injEq] at hx; subst hx; trivial
theorem SlOk.evals {n : Nat} {s : Sl} {a : Act} (h : SlOk n s a) : ∀ {xs : List Operand} {vs : List SV}, opds s xs = some vs → xs.map a.eval = vs.map SV.den
  | [], vs, hx => by simp only [opds, Option.some.injEq] at hx; subst hx; rfl
  | x :: r, vs, hx => by
    simp only [opds] at hx
    split at hx
    · rename_i v l h1 h2
      simp only [Option.some.injEq] at hx
      subst hx
      simp [h.eval h1, h.evals h2]
    · cases hx

theorem SlOk.oks {n : Nat} {s : Sl} {a : Act} (h : SlOk n s a) : ∀ {xs : List Operand} {vs : List SV}, opds s xs = some vs → ∀ v ∈ vs, v.ok
  | [], vs, hx => by simp only [opds, Option.some.injEq] at hx; subst hx; simp
  | x :: r, vs, hx => by
    simp only [opds] at hx
    split at hx
    · rename_i v l h1 h2
      simp only [Option.some.injEq] at hx
      subst hx
      intro y hy
      simp only [List.mem_cons] at hy
      rcases hy with rfl | hy
      · exact h.ok h1
      · exact h.oks h2 y hy
    · cases hx

theorem SlOk.put {n : Nat} {s : Sl} {a : Act} (h : SlOk n s a) {d : Option Nat} (hd : ∀ k, d = some k → k < n) {v : SV} (hv : v.ok) : SlOk n (s.setD d v) (a.put d v.den) := by
  cases d with
  | none => exact h
  | some d =>
    have hlt := hd d rfl
    refine ⟨by simp [Act.put, h.size], fun i x hg => ?_⟩
    simp only [Sl.setD] at hg
    rw [Sl.get_cons] at hg
    split at hg
    · rename_i hi
      subst hi
      cases hg
      exact ⟨by simp [Act.put, h.size, hlt], hv⟩
    · rename_i hi
      have := h.get i x hg
      simp only [Act.put]
      rw [Array.getElem?_setIfInBounds_ne (by omega)]
      exact this

theorem SlOk.override {n : Nat} {s : Sl} {a : Act} (h : SlOk n s a) {d : Nat} {v v' : SV} (hg : s.get d = some v) (hv : v.den = v'.den) (hok : v'.ok) : SlOk n ((d, v') :: s) a :=
  ⟨h.size, fun i x hi => by
    rw [Sl.get_cons] at hi
    split at hi
    · rename_i h'; subst h'; cases hi; rw [← hv]; exact ⟨(h.get _ v hg).1, hok⟩
    · exact h.get i x hi⟩

/-! ### Heaps -/
theorem Hp.get_put (t b : Nat) (c : Cont) : ∀ (h : Hp) (t' : Nat), (h.put t b c).get t' = if t' = t then some (b, c) else h.get t'
  | [], t' => by
    simp only [Hp.put, Hp.get]
    split
    · rename_i h; rw [if_pos (beq_true h)]
    · rename_i h; rw [if_neg (beq_false h)]
  | (k, b', c') :: r, t' => by
    simp only [Hp.put]
    split
    · rename_i h
      have := beq_true h
      subst this
      simp only [Hp.get]
      split
      · rename_i h; rw [if_pos (beq_true h)]
      · rename_i h; rw [if_neg (beq_false h)]
    · rename_i h
      have hne := beq_false h
      simp only [Hp.get]
      split
      · rename_i h'
        have := beq_true h'
        subst this
        rw [if_neg (fun h => hne h.symm)]
      · rename_i h'
        exact Hp.get_put t b c r t'

def sub (w : World) (o : Nat → Option Nat) (t : Nat) : Nat → Option Obj := fun x => if o x = some t then w.heap[x]? else none

def Cont.sat (b : Nat) (h : Nat → Option Obj) : Cont → Prop
  | .cells ty l => (∀ c ∈ l, c.ok) ∧ (valsOf l = [] ∨ ∃ fr : Nat × Nat, h b = some (.cells (valsOf l).toArray ty fr) ∧ (fr.1 = fr.2 ∨ (valsOf l).length ≤ fr.1))
  | .void => True
  | .op p => p b h

/-- The heap's blocks lie in the world, each with its own owner. -/
structure Own (hp : Hp) (o : Nat → Option Nat) (w : World) : Prop where
  lt : ∀ x t, o x = some t → x < w.heap.size
  sat : ∀ t b c, hp.get t = some (b, c) → c.sat b (sub w o t)

/-- From one world to a later one: what nobody owns is as it was. -/
structure Fr (w : World) (o : Nat → Option Nat) (w' : World) (o' : Nat → Option Nat) : Prop where
  size : w.heap.size ≤ w'.heap.size
  old : ∀ x, x < w.heap.size → o x = none → o' x = none ∧ w'.heap[x]? = w.heap[x]?
  tape : w'.tape = w.tape
  os : w'.os = w.os
  out : w'.output = w.output

theorem Fr.refl (w : World) (o : Nat → Option Nat) : Fr w o w o := ⟨Nat.le_refl _, fun _ _ h => ⟨h, rfl⟩, rfl, rfl, rfl⟩
theorem Fr.trans {w w' w'' : World} {o o' o'' : Nat → Option Nat} (h : Fr w o w' o') (h' : Fr w' o' w'' o'') : Fr w o w'' o'' :=
  ⟨Nat.le_trans h.size h'.size, fun x hx ho => by
    obtain ⟨h1, h2⟩ := h.old x hx ho
    obtain ⟨h3, h4⟩ := h'.old x (Nat.lt_of_lt_of_le hx h.size) h1
    exact ⟨h3, h4.trans h2⟩, h'.tape.trans h.tape, h'.os.trans h.os, h'.out.trans h.out⟩

/-- The same world but for the count of draws. -/
theorem Own.drew {hp : Hp} {o : Nat → Option Nat} {w : World} (h : Own hp o w) (n : Nat) : Own hp o { w with drawn := n } := ⟨h.lt, h.sat⟩
theorem Fr.drew {w : World} {o : Nat → Option Nat} {w' : World} {o' : Nat → Option Nat} (h : Fr w o w' o') (n : Nat) : Fr w o { w' with drawn := n } o' :=
  ⟨h.size, h.old, h.tape, h.os, h.out⟩

/-- A block that is owned, as cells. -/
theorem Own.block {hp : Hp} {o : Nat → Option Nat} {w : World} (h : Own hp o w) {t b : Nat} {ty : TypeId} {l : List Cel} (hg : hp.get t = some (b, .cells ty l)) (hne : valsOf l ≠ []) :
    o b = some t ∧ (∀ c ∈ l, c.ok) ∧ ∃ fr : Nat × Nat, w.heap[b]? = some (.cells (valsOf l).toArray ty fr) ∧ (fr.1 = fr.2 ∨ (valsOf l).length ≤ fr.1) := by
  obtain ⟨hok, hb⟩ := h.sat t b _ hg
  rcases hb with hb | ⟨fr, hb, hf⟩
  · exact (hne hb).elim
  unfold sub at hb
  split at hb
  · rename_i ho; exact ⟨ho, hok, fr, hb, hf⟩
  · cases hb
theorem Own.oks {hp : Hp} {o : Nat → Option Nat} {w : World} (h : Own hp o w) {t b : Nat} {ty : TypeId} {l : List Cel} (hg : hp.get t = some (b, .cells ty l)) : ∀ c ∈ l, c.ok := (h.sat t b _ hg).1

theorem Own.cell {hp : Hp} {o : Nat → Option Nat} {w : World} (h : Own hp o w) {t b : Nat} {ty : TypeId} {l : List Cel} (hg : hp.get t = some (b, .cells ty l))
    {i : Nat} {v : Value} (hv : (valsOf l)[i]? = some v) : w.cell? ⟨b, i, none⟩ = some v := by
  obtain ⟨_, _, fr, hb, _⟩ := h.block hg (by intro h; rw [h] at hv; simp at hv)
  simp [World.cell?, hb, hv]

theorem Own.notFrozen {hp : Hp} {o : Nat → Option Nat} {w : World} (h : Own hp o w) {t b : Nat} {ty : TypeId} {l : List Cel} (hg : hp.get t = some (b, .cells ty l))
    {i : Nat} (hi : i < (valsOf l).length) : w.frozen? ⟨b, i, none⟩ = false := by
  obtain ⟨_, _, fr, hb, hf⟩ := h.block hg (by intro h; rw [h] at hi; simp at hi)
  obtain ⟨lo, hi'⟩ := fr
  simp only [World.frozen?, hb]
  simp only [Bool.and_eq_false_iff, decide_eq_false_iff_not]
  dsimp at hf
  rcases hf with hf | hf <;> omega

def upd (o : Nat → Option Nat) (b : Nat) (t : Option Nat) : Nat → Option Nat := fun x => if x = b then t else o x

/-- Another heap that tells at least as much. -/
def Hext (h h' : Hp) : Prop := ∀ t b c, h.get t = some (b, c) → ∃ c', h'.get t = some (b, c') ∧ ∀ f, c'.sat b f → c.sat b f
theorem Hext.refl (h : Hp) : Hext h h := fun _ _ c hg => ⟨c, hg, fun _ h => h⟩
theorem Hext.trans {h h' h'' : Hp} (a : Hext h h') (b : Hext h' h'') : Hext h h'' := fun t bb c hx => by
  obtain ⟨c1, g1, e1⟩ := a t bb c hx
  obtain ⟨c2, g2, e2⟩ := b t bb c1 g1
  exact ⟨c2, g2, fun f h => e1 f (e2 f h)⟩
theorem Own.mono {h h' : Hp} (e : Hext h h') {o : Nat → Option Nat} {w : World} (hw : Own h' o w) : Own h o w := ⟨hw.lt, fun t b c hg => by
  obtain ⟨c', g, hs⟩ := e t b c hg
  exact hs _ (hw.sat t b c' g)⟩
theorem Hext.put {h : Hp} {t : Nat} (hn : h.get t = none) (b : Nat) (c : Cont) : Hext h (h.put t b c) := fun t' b' c' hx => by
  refine ⟨c', ?_, fun _ h => h⟩
  rw [Hp.get_put]
  split
  · rename_i ht; subst ht; rw [hn] at hx; cases hx
  · exact hx

/-- A new block. -/
theorem Own.alloc {h : Hp} {o : Nat → Option Nat} {w : World} (hw : Own h o w) {t : Nat} (hn : h.get t = none) {ty : TypeId} {l : List Cel} (hok : ∀ c ∈ l, c.ok)
    {fr : Nat × Nat} (hfr : fr.1 = fr.2 ∨ (valsOf l).length ≤ fr.1) :
    ∃ o', Own (h.put t w.heap.size (.cells ty l)) o' { w with heap := w.heap.push (.cells (valsOf l).toArray ty fr) } ∧
      Fr w o { w with heap := w.heap.push (.cells (valsOf l).toArray ty fr) } o' := by
  refine ⟨fun x => if x = w.heap.size then some t else if o x = some t then none else o x, ⟨?_, ?_⟩, ⟨?_, ?_, rfl, rfl, rfl⟩⟩
  · intro x t' hx
    simp only [Array.size_push]
    split at hx
    · omega
    · split at hx
      · cases hx
      · have := hw.lt x t' hx; omega
  · intro t' b c hg
    rw [Hp.get_put] at hg
    split at hg
    · rename_i ht
      subst ht
      cases hg
      exact ⟨hok, .inr ⟨fr, by simp [sub], hfr⟩⟩
    · rename_i ht
      have hs := hw.sat t' b c hg
      have : sub { w with heap := w.heap.push (.cells (valsOf l).toArray ty fr) } (fun x => if x = w.heap.size then some t else if o x = some t then none else o x) t' = sub w o t' := by
        funext x
        unfold sub
        by_cases hx : x = w.heap.size
        · subst hx
          have h1 : o w.heap.size ≠ some t' := fun h => by have := hw.lt _ _ h; omega
          simp only [if_true, if_neg h1]
          rw [if_neg]
          intro h; cases h; exact ht rfl
        · simp only [if_neg hx]
          by_cases ho : o x = some t
          · rw [if_pos ho]
            have : o x ≠ some t' := by rw [ho]; intro h; cases h; exact ht rfl
            rw [if_neg this]; simp
          · rw [if_neg ho]
            split
            · rename_i h2
              have := hw.lt x t' h2
              simp [Array.getElem?_push_lt this]
            · rfl
      rw [this]; exact hs
  · simp
  · intro x hx ho
    have : x ≠ w.heap.size := by omega
    simp only [if_neg this, ho]
    refine ⟨by simp, by simp [Array.getElem?_push_lt hx]⟩

end Ab
end Go
