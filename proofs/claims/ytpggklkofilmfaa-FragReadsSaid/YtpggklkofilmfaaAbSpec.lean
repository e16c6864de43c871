/- A function's contract: said of its own blocks, used beside any others. -/
import Derived.Test.YtpggklkofilmfaaAbTop
set_option linter.unusedSimpArgs false
set_option linter.unnecessarySimpa false
set_option linter.unusedVariables false
namespace Go
namespace Ab
variable {P : Program}

/-- What a function does: 'G' tells its arguments and the blocks that it looks at (under tags of the contract's own); 'R' what is open in its answer; 'news': the tags of the new blocks. -/
structure FSpec where
  G : Type
  args : G → List SV
  hp : G → Hp
  pre : G → Prop
  R : G → Type
  post : (g : G) → R g → Prop
  res : (g : G) → R g → SV
  new : (g : G) → R g → Hp
  upd : (g : G) → R g → Hp
  news : List Nat
  wr : Bool
  mt : List SV → Hp → Option (G × List Nat)

def FSpec.after (sp : FSpec) (g : sp.G) (r : sp.R g) : Hp := sp.new g r ++ (match sp.wr with
  | true => sp.upd g r
  | false => sp.hp g)

def argSl : Nat → List SV → Sl
  | _, [] => []
  | i, v :: r => (i, v) :: argSl (i + 1) r

def sameV : List SV → List SV → Prop
  | [], [] => True
  | x :: r, y :: s => x.same y ∧ sameV r s
  | _, _ => False
def freshIn (h : Hp) : List Nat → Bool
  | [] => true
  | t :: r => match h.get t with
    | some _ => false
    | none => freshIn h r
def merge : Hp → Hp → Hp
  | [], h => h
  | (t, b, c) :: r, h => (merge r h).put t b c

/-! ### Other tags -/
def look (t : Nat) : List Nat → List Nat → Nat
  | x :: r, y :: s => match Nat.beq t x with
    | true => y
    | false => look t r s
  | _, _ => t
def Cel.ren (f : Nat → Nat) : Cel → Cel
  | .ptr t b o => .ptr (f t) b o
  | .sl t b o n c z => .sl (f t) b o n c z
  | .fn g l => .fn g (l.map fun x => (f x.1, x.2))
  | x => x
def renL (f : Nat → Nat) : List Cel → List Cel
  | [] => []
  | x :: r => x.ren f :: renL f r
def SA.ren (f : Nat → Nat) : SA → SA
  | .c x => .c (x.ren f)
  | .agg l => .agg (renL f l)
def renA (f : Nat → Nat) : List SA → List SA
  | [] => []
  | x :: r => x.ren f :: renA f r
def SV.ren (f : Nat → Nat) : SV → SV
  | .c x => .c (x.ren f)
  | .agg l => .agg (renL f l)
  | .tup l => .tup (renA f l)
def Cont.ren (f : Nat → Nat) : Cont → Cont
  | .cells ty l => .cells ty (renL f l)
  | .void => .void
  | .op p => .op p
def Hp.ren (f : Nat → Nat) : Hp → Hp
  | [] => []
  | (t, b, c) :: r => (f t, b, c.ren f) :: Hp.ren f r
def newsAt (fr : Nat) : Nat → List Nat → List Nat
  | _, [] => []
  | i, _ :: r => (fr + 1000 * i) :: newsAt fr (i + 1) r

theorem Cel.ren_vals (f : Nat → Nat) (x : Cel) : (x.ren f).vals = x.vals ∧ ((x.ren f).ok ↔ x.ok) := by
  cases x <;> first
    | exact ⟨rfl, Iff.rfl⟩
    | exact ⟨by simp [Cel.ren, Cel.vals, List.map_map, Function.comp_def], Iff.rfl⟩
theorem renL_vals (f : Nat → Nat) : ∀ l : List Cel, valsOf (renL f l) = valsOf l ∧ ((∀ c ∈ renL f l, c.ok) ↔ ∀ c ∈ l, c.ok)
  | [] => ⟨rfl, Iff.rfl⟩
  | x :: l => by
    obtain ⟨h1, h2⟩ := Cel.ren_vals f x
    obtain ⟨i1, i2⟩ := renL_vals f l
    exact ⟨by rw [renL, valsOf_cons, valsOf_cons, h1, i1], by simp [renL, h2, i2]⟩
theorem SA.ren_den (f : Nat → Nat) (x : SA) : (x.ren f).den = x.den ∧ ((x.ren f).ok ↔ x.ok) := by
  cases x with
  | c x => exact ⟨by simp [SA.ren, SA.den, Cel.one, (Cel.ren_vals f x).1], Iff.rfl⟩
  | agg l => exact ⟨by simp [SA.ren, SA.den, (renL_vals f l).1], (renL_vals f l).2⟩
theorem renA_den (f : Nat → Nat) : ∀ l : List SA, (renA f l).map SA.den = l.map SA.den ∧ ((∀ c ∈ renA f l, c.ok) ↔ ∀ c ∈ l, c.ok)
  | [] => ⟨rfl, Iff.rfl⟩
  | x :: l => by
    obtain ⟨h1, h2⟩ := SA.ren_den f x
    obtain ⟨i1, i2⟩ := renA_den f l
    exact ⟨by simp [renA, h1, i1], by simp [renA, h2, i2]⟩
theorem SV.ren_den (f : Nat → Nat) (x : SV) : (x.ren f).den = x.den ∧ ((x.ren f).ok ↔ x.ok) := by
  cases x with
  | c x => exact ⟨by simp [SV.ren, SV.den, Cel.one, (Cel.ren_vals f x).1], Iff.rfl⟩
  | agg l => exact ⟨by simp [SV.ren, SV.den, (renL_vals f l).1], (renL_vals f l).2⟩
  | tup l => exact ⟨by simp [SV.ren, SV.den, (renA_den f l).1], (renA_den f l).2⟩
theorem Cont.ren_sat (f : Nat → Nat) (c : Cont) (b : Blk) (h : Option (Bool × Obj)) : (c.ren f).sat b h ↔ c.sat b h := by
  cases c with
  | cells ty l => simp only [Cont.ren, Cont.sat, (renL_vals f l).1, (renL_vals f l).2]
  | void => exact Iff.rfl
  | op p => exact Iff.rfl

theorem look_mem {t : Nat} : ∀ {xs ys : List Nat}, xs.length = ys.length → t ∈ xs → look t xs ys ∈ ys
  | [], _, _, h => by simp at h
  | x :: r, [], hl, _ => by simp at hl
  | x :: r, y :: s, hl, h => by
    simp only [look]
    split
    · simp
    · rename_i e
      simp only [List.mem_cons] at h ⊢
      exact .inr (look_mem (by simpa using hl) (h.resolve_left (beq_false e)))
theorem look_inj {t t' : Nat} : ∀ {xs ys : List Nat}, xs.length = ys.length → nodupB ys = true → t ∈ xs → t' ∈ xs → look t xs ys = look t' xs ys → t = t'
  | [], _, _, _, h, _, _ => by simp at h
  | x :: r, [], hl, _, _, _, _ => by simp at hl
  | x :: r, y :: s, hl, hn, h, h', e => by
    obtain ⟨n1, n2⟩ := nodupB_cons hn
    have hl' : r.length = s.length := by simpa using hl
    simp only [look] at e
    split at e
    · rename_i e1
      split at e
      · rename_i e2; rw [beq_true e1, beq_true e2]
      · rename_i e2
        simp only [List.mem_cons] at h'
        have := look_mem hl' (h'.resolve_left (beq_false e2))
        rw [← e] at this; exact absurd this n1
    · rename_i e1
      simp only [List.mem_cons] at h
      have hr := h.resolve_left (beq_false e1)
      split at e
      · have := look_mem hl' hr
        rw [e] at this; exact absurd this n1
      · rename_i e2
        simp only [List.mem_cons] at h'
        exact look_inj hl' n2 hr (h'.resolve_left (beq_false e2)) e

theorem tags_ren (f : Nat → Nat) : ∀ u : Hp, tagsOf (u.ren f) = (tagsOf u).map f
  | [] => rfl
  | (t, b, c) :: r => by simp [Hp.ren, tagsOf, tags_ren f r]
theorem get_ren {f : Nat → Nat} : ∀ {u : Hp}, (∀ t ∈ tagsOf u, ∀ t' ∈ tagsOf u, f t = f t' → t = t') → ∀ {s : Nat} {b : Blk} {c : Cont}, (u.ren f).get s = some (b, c) →
    ∃ t c', s = f t ∧ u.get t = some (b, c') ∧ c = c'.ren f
  | [], _, s, b, c, h => by simp [Hp.ren, Hp.get] at h
  | (t0, b0, c0) :: r, hinj, s, b, c, h => by
    simp only [Hp.ren, Hp.get] at h
    split at h
    · rename_i e
      cases h
      exact ⟨t0, c0, beq_true e, by simp [Hp.get], rfl⟩
    · rename_i e
      obtain ⟨t, c', h1, h2, h3⟩ := get_ren (u := r) (fun t ht t' ht' => hinj t (by simp [tagsOf, ht]) t' (by simp [tagsOf, ht'])) h
      refine ⟨t, c', h1, ?_, h3⟩
      simp only [Hp.get]
      split
      · rename_i e'
        exfalso
        exact beq_false e (by rw [h1, beq_true e'])
      · exact h2

/-- The tags of a contract, as its user's: those of the blocks that it was given; those of the new ones. -/
def FSpec.at (sp : FSpec) (fr : Nat) (g : sp.G) (m : List Nat) : Nat → Nat := fun t => look t (tagsOf (sp.hp g) ++ sp.news) (m ++ newsAt fr 0 sp.news)

/-- The contract as the machine uses it. -/
def FSpec.con0 (sp : FSpec) : Con := ⟨sp.wr, fun fr vs h => match sp.mt vs h with
  | none => .bad
  | some (g, m) => .eff (some (sameV vs (sp.args g) ∧ (entHp h m (sp.hp g) ∧ present h m = true) ∧ nodupB m = true ∧ nodupB (tagsOf (sp.hp g) ++ sp.news) = true ∧ nodupB (newsAt fr 0 sp.news) = true ∧ freshIn h (newsAt fr 0 sp.news) = true ∧ sp.pre g)) (sp.R g) (sp.post g)
      (fun r => (sp.res g r).ren (sp.at fr g m))
      (fun r => match sp.wr with
        | true => merge ((sp.new g r).ren (sp.at fr g m)) (merge ((sp.upd g r).ren (sp.at fr g m)) h)
        | false => merge ((sp.new g r).ren (sp.at fr g m)) h)⟩

/-- A nil slice among the arguments bears a tag of its own, with nothing under it. -/
def nilArgs (fr : Nat) : Nat → List SV → Hp → List SV × Hp
  | _, [], h => ([], h)
  | i, x :: r, h => match nilArgs fr (i + 1) r h with
    | (l, h') => match x with
      | .c (.v (.slice none n c)) => match h'.get (100000 + 100 * fr + i) with
        | none => (.c (.sl (100000 + 100 * fr + i) 0 0 n c 1) :: l, h'.put (100000 + 100 * fr + i) 0 .void)
        | some _ => (x :: l, h')
      | x => (x :: l, h')
def FSpec.con (sp : FSpec) : Con := ⟨sp.wr, fun fr vs h => match nilArgs fr 0 vs h with
  | (vs', h') => sp.con0.run fr vs' h'⟩
theorem nilArgs_spec (fr : Nat) : ∀ (i : Nat) (vs : List SV) (h : Hp), (nilArgs fr i vs h).1.map SV.den = vs.map SV.den ∧ ((∀ v ∈ vs, v.ok) → ∀ v ∈ (nilArgs fr i vs h).1, v.ok) ∧ Hext h (nilArgs fr i vs h).2 ∧
    (∀ {o w}, Own h o w → ∃ o', Own (nilArgs fr i vs h).2 o' w ∧ o' = o)
  | i, [], h => ⟨rfl, fun h => h, Hext.refl h, fun hw => ⟨_, hw, rfl⟩⟩
  | i, x :: r, h => by
    obtain ⟨h1, h2, h3, h4⟩ := nilArgs_spec fr (i + 1) r h
    simp only [nilArgs]
    cases hn : nilArgs fr (i + 1) r h with
    | mk l h' =>
    rw [hn] at h1 h2 h3 h4
    have plain : ((x :: l).map SV.den = (x :: r).map SV.den ∧ ((∀ v ∈ x :: r, v.ok) → ∀ v ∈ x :: l, v.ok) ∧ Hext h h' ∧ ∀ {o w}, Own h o w → ∃ o', Own h' o' w ∧ o' = o) := by
      refine ⟨by simp only [List.map_cons]; rw [h1], fun hok v hv => ?_, h3, h4⟩
      simp only [List.mem_cons] at hv
      rcases hv with rfl | hv
      · exact hok _ (by simp)
      · exact h2 (fun v hv => hok v (by simp [hv])) v hv
    dsimp only
    split
    · rename_i n c
      split
      · rename_i hg
        refine ⟨by simp only [List.map_cons]; rw [h1]; rfl, fun hok v hv => ?_, h3.trans (Hext.put hg _ _), fun {o w} hw => ?_⟩
        · simp only [List.mem_cons] at hv
          rcases hv with rfl | hv
          · trivial
          · exact h2 (fun v hv => hok v (by simp [hv])) v hv
        · obtain ⟨o1, ho1, ho2⟩ := h4 hw
          refine ⟨o1, ⟨ho1.lt, fun t b c hx => ?_⟩, ho2⟩
          rw [Hp.get_put] at hx
          split at hx
          · cases hx; trivial
          · exact ho1.sat t b c hx
      · exact plain
    · exact plain

/-- What is shown of the function itself. -/
structure FnOk (P : Program) (f : FuncId) (sp : FSpec) : Prop where
  func : ∃ fn, P.funcs[f]? = some fn ∧ (fn.name == "runtime.NumGoroutine") = false ∧ fn.body.isSome = true
  calls : ∀ g, sp.pre g → (∀ v ∈ sp.args g, v.ok) → ∀ w o, Own (sp.hp g) o w → Calls P f ((sp.args g).map SV.den).toArray w fun e w' =>
    ∃ r o', sp.post g r ∧ (sp.res g r).ok ∧ e = .returned (sp.res g r).den ∧ Own (sp.after g r) o' w' ∧ Fr w o w' o'
  newTags : ∀ g r t, t ∈ tagsOf (sp.new g r) → t ∈ sp.news
  updTags : sp.wr = true → ∀ g r t, t ∈ tagsOf (sp.upd g r) ↔ t ∈ tagsOf (sp.hp g)

theorem sameV_den : ∀ {l m : List SV}, sameV l m → l.map SV.den = m.map SV.den ∧ ((∀ c ∈ l, c.ok) → ∀ c ∈ m, c.ok)
  | [], [], _ => ⟨rfl, fun h => h⟩
  | x :: l, y :: m, h => by
    obtain ⟨h1, h2⟩ := h
    obtain ⟨a1, a2⟩ := SV.same_den h1
    obtain ⟨b1, b2⟩ := sameV_den h2
    refine ⟨by simp [a1, b1], fun h c hc => ?_⟩
    simp only [List.mem_cons] at hc
    rcases hc with rfl | hc
    · exact a2 (h _ (by simp))
    · exact b2 (fun c hc => h c (by simp [hc])) c hc
  | [], _ :: _, h => h.elim
  | _ :: _, [], h => h.elim
theorem get_merge : ∀ (u h : Hp) (t : Nat), (merge u h).get t = match u.get t with | some x => some x | none => h.get t
  | [], h, t => by simp [merge, Hp.get]
  | (t0, b0, c0) :: r, h, t => by
    rw [merge, Hp.get_put]
    simp only [Hp.get]
    by_cases e : t = t0
    · subst e; simp
    · rw [if_neg e]
      have : Nat.beq t t0 = false := by
        cases hb : Nat.beq t t0 with
        | false => rfl
        | true => exact absurd (beq_true hb) e
      rw [this, get_merge r h t]
theorem get_some_tags : ∀ {u : Hp} {t : Nat}, t ∈ tagsOf u → ∃ x, u.get t = some x
  | [], t, h => by simp [tagsOf] at h
  | (t0, b0, c0) :: r, t, h => by
    simp only [Hp.get]
    split
    · exact ⟨_, rfl⟩
    · rename_i e
      simp only [tagsOf, List.mem_cons] at h
      exact get_some_tags (h.resolve_left (beq_false e))
theorem get_append (u v : Hp) (t : Nat) : Hp.get t (u ++ v) = match u.get t with | some x => some x | none => v.get t := by
  induction u with
  | nil => rfl
  | cons x r ih =>
    obtain ⟨t0, b0, c0⟩ := x
    simp only [List.cons_append, Hp.get]
    split
    · rfl
    · exact ih
theorem freshIn_get {h : Hp} : ∀ {l : List Nat}, freshIn h l = true → ∀ t ∈ l, h.get t = none
  | [], _, t, ht => by simp at ht
  | x :: r, hf, t, ht => by
    simp only [freshIn] at hf
    split at hf
    · cases hf
    · rename_i hx
      simp only [List.mem_cons] at ht
      rcases ht with rfl | ht
      · exact hx
      · exact freshIn_get hf t ht
theorem nodupB_append : ∀ {a b : List Nat}, nodupB a = true → nodupB b = true → (∀ t ∈ a, t ∉ b) → nodupB (a ++ b) = true
  | [], b, _, hb, _ => hb
  | x :: r, b, ha, hb, hd => by
    obtain ⟨h1, h2⟩ := nodupB_cons ha
    have ih := nodupB_append h2 hb (fun t ht => hd t (by simp [ht]))
    simp only [List.cons_append, nodupB]
    split
    · rename_i e
      have := elem_true.1 e
      simp only [List.mem_append] at this
      rcases this with h | h
      · exact absurd h h1
      · exact absurd h (hd x (by simp))
    · exact ih
theorem nodupB_left : ∀ {a b : List Nat}, nodupB (a ++ b) = true → nodupB a = true
  | [], _, _ => rfl
  | x :: r, b, h => by
    obtain ⟨h1, h2⟩ := nodupB_cons (x := x) (r := r ++ b) h
    simp only [nodupB]
    split
    · rename_i e; exact absurd (List.mem_append_left _ (elem_true.1 e)) h1
    · exact nodupB_left h2
theorem nodupB_disj : ∀ {a b : List Nat}, nodupB (a ++ b) = true → ∀ t ∈ b, t ∉ a
  | [], _, _, _, _ => by simp
  | x :: r, b, h, t, ht => by
    obtain ⟨h1, h2⟩ := nodupB_cons (x := x) (r := r ++ b) h
    simp only [List.mem_cons, not_or]
    exact ⟨by rintro rfl; exact h1 (List.mem_append_right _ ht), nodupB_disj h2 t ht⟩
theorem look_append_right {t : Nat} : ∀ {xs ys xs' ys' : List Nat}, xs.length = ys.length → t ∉ xs → look t (xs ++ xs') (ys ++ ys') = look t xs' ys'
  | [], [], _, _, _, _ => rfl
  | [], _ :: _, _, _, h, _ => by simp at h
  | x :: r, [], _, _, hl, _ => by simp at hl
  | x :: r, y :: s, xs', ys', hl, h => by
    simp only [List.mem_cons, not_or] at h
    simp only [List.cons_append, look]
    split
    · rename_i e; exact absurd (beq_true e) h.1
    · exact look_append_right (by simpa using hl) h.2
theorem newsAt_length (fr : Nat) : ∀ (i : Nat) (l : List Nat), (newsAt fr i l).length = l.length
  | _, [] => rfl
  | i, _ :: r => by simp [newsAt, newsAt_length fr (i + 1) r]
theorem entHp_length {h : Hp} : ∀ {m : List Nat} {u : Hp}, entHp h m u → (tagsOf u).length = m.length
  | [], [], _ => rfl
  | t :: m, (s, b, c) :: r, he => by
    have := entHp_length he.2
    simp [tagsOf, this]
  | [], _ :: _, he => he.elim
  | _ :: _, [], he => he.elim
theorem look_append {t : Nat} : ∀ {xs ys xs' ys' : List Nat}, xs.length = ys.length → t ∈ xs → look t (xs ++ xs') (ys ++ ys') = look t xs ys
  | [], _, _, _, _, h => by simp at h
  | x :: r, [], _, _, hl, _ => by simp at hl
  | x :: r, y :: s, xs', ys', hl, h => by
    simp only [List.cons_append, look]
    split
    · rfl
    · rename_i e
      simp only [List.mem_cons] at h
      exact look_append (by simpa using hl) (h.resolve_left (beq_false e))
theorem tm_look {h : Hp} : ∀ {m : List Nat} {u : Hp}, (tagsOf u).length = m.length → nodupB m = true → nodupB (tagsOf u) = true → ∀ {s t : Nat}, tm m u s = some t → t ∈ tagsOf u ∧ look t (tagsOf u) m = s
  | [], _, _, _, _, s, t, hh => by simp [tm] at hh
  | x :: m, [], _, _, _, s, t, hh => by simp [tm] at hh
  | x :: m, (t0, b, c) :: r, hl, hm, hu, s, t, hh => by
    obtain ⟨m1, m2⟩ := nodupB_cons hm
    obtain ⟨u1, u2⟩ := nodupB_cons (x := t0) (r := tagsOf r) hu
    simp only [tm] at hh
    simp only [tagsOf, look]
    split at hh
    · rename_i e; cases hh; exact ⟨by simp, by simp [e]⟩
    · rename_i e
      obtain ⟨h1, h2⟩ := tm_look (h := h) (u := r) (by simpa [tagsOf] using hl) m2 u2 hh
      refine ⟨by simp [h1], ?_⟩
      split
      · rename_i e'; exact absurd (beq_true e' ▸ h1) u1
      · exact h2
theorem tm_some {m : List Nat} : ∀ {u : Hp}, (tagsOf u).length = m.length → ∀ {s : Nat}, s ∈ m → ∃ t, tm m u s = some t := by
  induction m with
  | nil => intro u _ s h; simp at h
  | cons x m ih =>
    intro u hl s h
    cases u with
    | nil => simp [tagsOf] at hl
    | cons y r =>
      obtain ⟨t0, b, c⟩ := y
      simp only [tm]
      split
      · exact ⟨_, rfl⟩
      · rename_i e
        simp only [List.mem_cons] at h
        exact ih (by simpa [tagsOf] using hl) (h.resolve_left e)

/-- The owners behind a call: its own, under the user's tags, then those that it never saw. -/
def joinO (o o' : Nat → Option Ow) (f : Nat → Nat) (after gone : List Nat) : Nat → Option Ow := fun x => match o' x with
  | some .ro => some .ro
  | some (.tag t) => if t ∈ after then some (.tag (f t)) else none
  | none => match o x with
    | some (.tag t) => if t ∈ gone then none else some (.tag t)
    | _ => none
theorem joinO_iff {o o' : Nat → Option Ow} {f : Nat → Nat} {after gone : List Nat} {x s : Nat} : joinO o o' f after gone x = some (.tag s) ↔ (∃ t, o' x = some (.tag t) ∧ t ∈ after ∧ f t = s) ∨ (o' x = none ∧ o x = some (.tag s) ∧ s ∉ gone) := by
  unfold joinO
  cases o' x with
  | none =>
    cases o x with
    | none => simp
    | some t' =>
      cases t' with
      | ro => simp
      | tag t' =>
        dsimp only
        split
        · rename_i h; simp; rintro rfl; exact h
        · rename_i h; simp; rintro rfl; exact h
  | some t' =>
    cases t' with
    | ro => simp
    | tag t' =>
      dsimp only
      split
      · rename_i h; simp [h]
      · rename_i h; simp; intro h'; exact absurd h' h
theorem joinO_ro {o o' : Nat → Option Ow} {f : Nat → Nat} {after gone : List Nat} {x : Nat} (h : o' x = some .ro) : joinO o o' f after gone x = some .ro := by
  simp [joinO, h]
theorem joinO_ro' {o o' : Nat → Option Ow} {f : Nat → Nat} {after gone : List Nat} {x : Nat} (h : joinO o o' f after gone x = some .ro) : o' x = some .ro := by
  unfold joinO at h
  cases h1 : o' x with
  | none =>
    rw [h1] at h
    cases h2 : o x with
    | none => simp [h2] at h
    | some t => cases t <;> simp [h2] at h
  | some t =>
    cases t with
    | ro => rfl
    | tag t => simp [h1] at h

theorem Cont.same_back {x y : Cont} (h : x.same y) {b : Blk} {f : Option (Bool × Obj)} (hs : y.sat b f) : x.sat b f := by
  have hc : ∀ {a b : Cel}, a.same b → b.ok → a.ok := by
    intro a b h
    cases a with
    | v x => cases b with
      | sl t b o n c z => cases x <;> simp only [Cel.same] at h <;> simp_all [Cel.ok, Value.oneCell']
      | _ => simp only [Cel.same] at h <;> simp_all [Cel.ok]
    | _ => cases b <;> simp only [Cel.same] at h <;> simp_all [Cel.ok]
  have hl : ∀ {l m : List Cel}, sameL l m → (∀ c ∈ m, c.ok) → ∀ c ∈ l, c.ok := by
    intro l
    induction l with
    | nil => intro m h hm c hc; simp at hc
    | cons a l ih => intro m h; cases m with
      | nil => exact h.elim
      | cons b m =>
        intro hm c hx
        simp only [List.mem_cons] at hx
        rcases hx with rfl | hx
        · exact hc h.1 (hm _ (by simp))
        · exact ih h.2 (fun c hc => hm c (by simp [hc])) c hx
  cases x with
  | cells t l => cases y with
    | cells t' l' =>
      obtain ⟨rfl, h⟩ := h
      obtain ⟨h1, h2⟩ := sameL_vals h
      simp only [Cont.sat] at hs ⊢
      rw [h1]
      exact ⟨hl h hs.1, hs.2⟩
    | _ => exact h.elim
  | void => trivial
  | op p => cases y with
    | op q => cases h; exact hs
    | _ => exact h.elim

theorem con0_fits {sp : FSpec} {fr : Nat} {vs : List SV} {h a b : Hp} {F : SV → Hp → Prop} (hf : (sp.con0.run fr vs h).fits a F) : (sp.con0.run fr vs h).fits b F := by
  simp only [FSpec.con0] at hf ⊢
  split at hf
  · exact hf
  · exact hf
theorem present_get {h : Hp} : ∀ {m : List Nat}, present h m = true → ∀ t ∈ m, ∃ x, h.get t = some x
  | [], _, t, ht => by simp at ht
  | y :: r, hp, t, ht => by
    simp only [present] at hp
    split at hp
    · rename_i x hx
      simp only [List.mem_cons] at ht
      rcases ht with rfl | ht
      · exact ⟨x, hx⟩
      · exact present_get hp t ht
    · cases hp

theorem conOk_of_spec0 {f : FuncId} {sp : FSpec} (hs : FnOk P f sp) : ConOk P f sp.con0 := by
  refine ⟨hs.func, ?_, ?_⟩
  · intro fr vs h F hfit hvok w o hw
    simp only [FSpec.con0] at hfit
    split at hfit
    · exact hfit.elim
    · rename_i g m hmt
      obtain ⟨⟨hsame, ⟨hent, hpresent⟩, hm, hun, hnn, hfresh, hpre⟩, hF⟩ := hfit
      have hu := nodupB_left hun
      obtain ⟨hden, hok⟩ := sameV_den hsame
      have hml := entHp_length hent
      have hmin := present_get hpresent
      have hsmall : Own (sp.hp g) (fun x => (o x).bind (Ow.map (tm m (sp.hp g)))) w := hw.ent hent hm hu
      have hcall := hs.calls g hpre (hok hvok) w _ hsmall
      rw [← hden] at hcall
      refine hcall.mono fun e w' ⟨r, o', hp1, hp2, hp3, hp4, hp5⟩ => ?_
      have hFr := hF r hp1
      -- tags
      have hgl : (tagsOf (sp.hp g) ++ sp.news).length = (m ++ newsAt fr 0 sp.news).length := by simp [hml, newsAt_length]
      have hnd : nodupB (m ++ newsAt fr 0 sp.news) = true := nodupB_append hm hnn fun t ht hn => by
        obtain ⟨x, hx⟩ := hmin t ht
        rw [freshIn_get hfresh t hn] at hx; cases hx
      have hafter : ∀ t, t ∈ tagsOf (sp.after g r) → t ∈ tagsOf (sp.hp g) ++ sp.news := by
        intro t ht
        obtain ⟨x, hx⟩ := get_some_tags ht
        rw [FSpec.after, get_append] at hx
        cases h1 : Hp.get t (sp.new g r) with
        | some y => exact List.mem_append_right _ (hs.newTags g r t (tagsOf_get h1))
        | none =>
          rw [h1] at hx
          refine List.mem_append_left _ ?_
          cases hwr : sp.wr with
          | true => rw [hwr] at hx; exact (hs.updTags hwr g r t).1 (tagsOf_get hx)
          | false => rw [hwr] at hx; exact tagsOf_get hx
      have hback : ∀ t, t ∈ tagsOf (sp.hp g) → ∃ x, (sp.after g r).get t = some x := by
        intro t ht
        rw [FSpec.after, get_append]
        cases h1 : Hp.get t (sp.new g r) with
        | some y => exact ⟨y, rfl⟩
        | none =>
          cases hwr : sp.wr with
          | true => exact get_some_tags ((hs.updTags hwr g r t).2 ht)
          | false => exact get_some_tags ht
      have hinj : ∀ t ∈ tagsOf (sp.after g r), ∀ t' ∈ tagsOf (sp.after g r), sp.at fr g m t = sp.at fr g m t' → t = t' :=
        fun t ht t' ht' e => look_inj hgl hnd (hafter t ht) (hafter t' ht') e
      have hto : ∀ t ∈ tagsOf (sp.after g r), sp.at fr g m t ∈ m ++ newsAt fr 0 sp.news := fun t ht => look_mem hgl (hafter t ht)
      have hold : ∀ x s, o x = some (.tag s) → s ∉ m → x < w.heap.size → o' x = none ∧ w'.heap[x]? = w.heap[x]? := fun x s hx hs' hlt =>
        hp5.old x hlt (by
          simp only [hx, Option.bind_some, Ow.map]
          cases htm : tm m (sp.hp g) s with
          | none => rfl
          | some t => exact absurd (tm_mem htm).1 hs')
      refine ⟨(sp.res g r).ren (sp.at fr g m), _, joinO o o' (sp.at fr g m) (tagsOf (sp.after g r)) (m ++ newsAt fr 0 sp.news), by rw [(SV.ren_den _ _).1]; exact hp3, (SV.ren_den _ _).2.2 hp2, hFr,
        ⟨fun x s hx => ?_, fun s b c hg => ?_⟩, ⟨hp5.size, fun x hx ho => ?_, fun x ho => ?_, hp5.tape, hp5.os, hp5.out⟩⟩
      · cases s with
        | ro => exact hp4.lt x _ (joinO_ro' hx)
        | tag s =>
          rcases joinO_iff.1 hx with ⟨t, h1, _⟩ | ⟨_, h2, _⟩
          · exact hp4.lt x _ h1
          · have := hw.lt x _ h2; have := hp5.size; omega
      · -- the look-up in the merged heap
        have hmg : (match sp.wr with
            | true => merge ((sp.new g r).ren (sp.at fr g m)) (merge ((sp.upd g r).ren (sp.at fr g m)) h)
            | false => merge ((sp.new g r).ren (sp.at fr g m)) h).get s = some (b, c) := hg
        have hinjN : ∀ t ∈ tagsOf (sp.new g r), ∀ t' ∈ tagsOf (sp.new g r), sp.at fr g m t = sp.at fr g m t' → t = t' := fun t ht t' ht' e =>
          look_inj hgl hnd (List.mem_append_right _ (hs.newTags g r t ht)) (List.mem_append_right _ (hs.newTags g r t' ht')) e
        have hcase : (∃ t c0, s = sp.at fr g m t ∧ (sp.after g r).get t = some (b, c0) ∧ ∀ f, c0.sat b f → c.sat b f) ∨ ((∀ t ∈ tagsOf (sp.after g r), sp.at fr g m t ≠ s) ∧ h.get s = some (b, c)) := by
          cases hn : ((sp.new g r).ren (sp.at fr g m)).get s with
          | some x =>
            have : (b, c) = x := by
              cases hwr : sp.wr <;> (rw [hwr] at hmg; simp only [get_merge, hn] at hmg; cases hmg; rfl)
            subst this
            obtain ⟨t, c', e1, e2, e3⟩ := get_ren hinjN hn
            refine .inl ⟨t, c', e1, ?_, fun f hf => by rw [e3]; exact (Cont.ren_sat _ _ _ _).2 hf⟩
            rw [FSpec.after, get_append, e2]
          | none =>
            cases hwr : sp.wr with
            | true =>
              rw [hwr] at hmg
              simp only [get_merge, hn] at hmg
              have hinjU : ∀ t ∈ tagsOf (sp.upd g r), ∀ t' ∈ tagsOf (sp.upd g r), sp.at fr g m t = sp.at fr g m t' → t = t' := fun t ht t' ht' e =>
                look_inj hgl hnd (List.mem_append_left _ ((hs.updTags hwr g r t).1 ht)) (List.mem_append_left _ ((hs.updTags hwr g r t').1 ht')) e
              have hnew : ∀ t, sp.at fr g m t = s → (sp.new g r).get t = none := by
                intro t e
                cases h1 : (sp.new g r).get t with
                | none => rfl
                | some y =>
                  exfalso
                  have hmm : s ∈ tagsOf ((sp.new g r).ren (sp.at fr g m)) := by rw [tags_ren]; exact List.mem_map.2 ⟨t, tagsOf_get h1, e⟩
                  obtain ⟨y', hy'⟩ := get_some_tags hmm
                  rw [hn] at hy'; cases hy'
              cases hu' : ((sp.upd g r).ren (sp.at fr g m)).get s with
              | some x =>
                rw [hu'] at hmg
                cases hmg
                obtain ⟨t, c', e1, e2, e3⟩ := get_ren hinjU hu'
                refine .inl ⟨t, c', e1, ?_, fun f hf => by rw [e3]; exact (Cont.ren_sat _ _ _ _).2 hf⟩
                rw [FSpec.after, get_append, hnew t e1.symm, hwr]; exact e2
              | none =>
                rw [hu'] at hmg
                refine .inr ⟨fun t ht e => ?_, hmg⟩
                obtain ⟨y, hy⟩ := get_some_tags ht
                rw [FSpec.after, get_append, hnew t e, hwr] at hy
                have hmm : s ∈ tagsOf ((sp.upd g r).ren (sp.at fr g m)) := by rw [tags_ren]; exact List.mem_map.2 ⟨t, tagsOf_get hy, e⟩
                obtain ⟨y', hy'⟩ := get_some_tags hmm
                rw [hu'] at hy'; cases hy'
            | false =>
              rw [hwr] at hmg
              simp only [get_merge, hn] at hmg
              have hnew : ∀ t, sp.at fr g m t = s → (sp.new g r).get t = none := by
                intro t e
                cases h1 : (sp.new g r).get t with
                | none => rfl
                | some y =>
                  exfalso
                  have hmm : s ∈ tagsOf ((sp.new g r).ren (sp.at fr g m)) := by rw [tags_ren]; exact List.mem_map.2 ⟨t, tagsOf_get h1, e⟩
                  obtain ⟨y', hy'⟩ := get_some_tags hmm
                  rw [hn] at hy'; cases hy'
              by_cases hsm : s ∈ m
              · obtain ⟨t, ht⟩ := tm_some (u := sp.hp g) hml hsm
                obtain ⟨ht1, ht2⟩ := tm_look (h := h) hml hm hu ht
                have hat : sp.at fr g m t = s := by unfold FSpec.at; rw [look_append hml ht1, ht2]
                obtain ⟨⟨b0, c0⟩, hx⟩ := get_some_tags ht1
                obtain ⟨s', g1, g3, g4⟩ := tm_spec hent hm hu hx
                have : s = s' := (g4 s).1 ht
                subst this
                rcases g1 with ⟨c', g1, g2⟩ | ⟨g1, _⟩
                case inr => rw [hmg] at g1; cases g1
                rw [hmg] at g1
                cases g1
                refine .inl ⟨t, c0, hat.symm, ?_, fun f => Cont.same_back g2⟩
                rw [FSpec.after, get_append, hnew t hat, hwr]; exact hx
              · refine .inr ⟨fun t ht e => ?_, hmg⟩
                obtain ⟨y, hy⟩ := get_some_tags ht
                rw [FSpec.after, get_append, hnew t e, hwr] at hy
                have ht1 := tagsOf_get (show (sp.hp g).get t = some y from hy)
                have := look_mem hml ht1
                apply hsm
                rw [← e]; unfold FSpec.at; rw [look_append hml ht1]; exact this
        rcases hcase with ⟨t, c0, rfl, ha, hsat⟩ | ⟨hno, hgs⟩
        · have hmem := tagsOf_get ha
          refine Cont.sat_mono (fun z hz => ?_) (hsat _ (hp4.sat t b c0 ha))
          obtain ⟨h1, h2⟩ := view_some.1 hz
          refine view_some.2 ⟨h1, ?_⟩
          rcases h2 with ⟨e1, e⟩ | ⟨e1, e⟩
          · exact .inl ⟨e1, joinO_ro e⟩
          · exact .inr ⟨e1, joinO_iff.2 (.inl ⟨t, e, hmem, rfl⟩)⟩
        · have hsm : s ∉ m := fun hsm => by
            obtain ⟨t, ht⟩ := tm_some (u := sp.hp g) hml hsm
            obtain ⟨ht1, ht2⟩ := tm_look (h := h) hml hm hu ht
            obtain ⟨x, hx⟩ := hback t ht1
            exact hno t (tagsOf_get hx) (by unfold FSpec.at; rw [look_append hml ht1, ht2])
          have hsn : s ∉ newsAt fr 0 sp.news := fun hn => by rw [freshIn_get hfresh s hn] at hgs; cases hgs
          have hkeep : ∀ x, o x = some (.tag s) → o' x = none ∧ w'.heap[x]? = w.heap[x]? := fun x hx => hold x s hx hsm (hw.lt x _ hx)
          refine Cont.sat_mono (fun z hz => ?_) (hw.sat s b c hgs)
          obtain ⟨h1, h2⟩ := view_some.1 hz
          rcases h2 with ⟨e1, e⟩ | ⟨e1, e⟩
          · obtain ⟨r1, r2⟩ := hp5.ro b.n (by rw [e]; rfl)
            exact view_some.2 ⟨by rw [r2]; exact h1, .inl ⟨e1, joinO_ro r1⟩⟩
          · obtain ⟨r1, r2⟩ := hkeep _ e
            exact view_some.2 ⟨by rw [r2]; exact h1, .inr ⟨e1, joinO_iff.2 (.inr ⟨r1, e, by simp [hsm, hsn]⟩)⟩⟩
      · obtain ⟨g1, g2⟩ := hp5.old x hx (by simp [ho])
        exact ⟨by simp [joinO, g1, ho], g2⟩
      · obtain ⟨g1, g2⟩ := hp5.ro x (by rw [ho]; rfl)
        exact ⟨joinO_ro g1, g2⟩
  · intro hwr fr vs h hfit
    simp only [FSpec.con0] at hfit ⊢
    have hwr' : sp.wr = false := hwr
    split at hfit
    · exact hfit.elim
    · rename_i g m hmt
      refine ⟨hfit.1, fun r hr => ?_⟩
      simp only [hwr']
      obtain ⟨_, ⟨hent, _⟩, _, hun, _, hfresh, _⟩ := hfit.1
      intro t b c hg
      refine ⟨c, ?_, fun _ h => h⟩
      rw [get_merge]
      cases h1 : Hp.get t ((sp.new g r).ren (sp.at fr g m)) with
      | none => exact hg
      | some x =>
        exfalso
        have hmem := tagsOf_get h1
        rw [tags_ren] at hmem
        obtain ⟨t', ht', e⟩ := List.mem_map.1 hmem
        have hnw := hs.newTags g r t' ht'
        have hml := entHp_length hent
        have : t ∈ newsAt fr 0 sp.news := by
          rw [← e]
          unfold FSpec.at
          rw [look_append_right hml (nodupB_disj hun t' hnw)]
          exact look_mem (newsAt_length _ _ _).symm hnw
        rw [freshIn_get hfresh t this] at hg; cases hg

theorem conOk_of_spec {f : FuncId} {sp : FSpec} (hs : FnOk P f sp) : ConOk P f sp.con := by
  have h0 := conOk_of_spec0 hs
  refine ⟨h0.func, ?_, ?_⟩
  · intro fr vs h F hfit hvok w o hw
    obtain ⟨h1, h2, h3, h4⟩ := nilArgs_spec fr 0 vs h
    obtain ⟨o1, ho1, ho2⟩ := h4 hw
    have hc := h0.calls fr (nilArgs fr 0 vs h).1 (nilArgs fr 0 vs h).2 F (con0_fits hfit) (h2 hvok) w o1 ho1
    rw [h1] at hc
    refine hc.mono fun e w' ⟨v, h', o', e1, e2, e3, e4, e5⟩ => ⟨v, h', o', e1, e2, e3, e4, ho2 ▸ e5⟩
  · intro hwr fr vs h hfit
    obtain ⟨h1, h2, h3, h4⟩ := nilArgs_spec fr 0 vs h
    exact con0_fits (Res.fits_mono (fun _ _ hx => h3.trans hx) (h0.keeps hwr fr (nilArgs fr 0 vs h).1 (nilArgs fr 0 vs h).2 (con0_fits hfit)))

/-- What a walk of the body shows at its end. -/
def FSpec.ends (sp : FSpec) (g : sp.G) : SV → Hp → Prop := fun v h => ∃ (r : sp.R g) (m : List Nat),
  v.same (sp.res g r) ∧ nodupB m = true ∧ nodupB (tagsOf (sp.after g r)) = true ∧ entHp h m (sp.after g r) ∧ sp.post g r

theorem argSl_get : ∀ (k : Nat) (l : List SV) (i : Nat) (v : SV), (argSl k l).get i = some v → k ≤ i ∧ l[i - k]? = some v
  | k, [], i, v, h => by simp [argSl, Sl.get] at h
  | k, x :: r, i, v, h => by
    rw [argSl, Sl.get_cons] at h
    split at h
    · rename_i e; subst e; cases h; simp
    · rename_i e
      obtain ⟨h1, h2⟩ := argSl_get (k + 1) r i v h
      refine ⟨by omega, ?_⟩
      rw [show i - k = (i - (k + 1)) + 1 by omega]
      simpa using h2

theorem fnOk_of_vc {cx : Cx} (hcx : CxOk P cx) (hm : P.follows .mixedOrders = true) {sp : FSpec} {nt : sp.G → Notes} {f : FuncId} {fn : Func} {c : Code} (hf : P.funcs[f]? = some fn) (hb : fn.body = some c)
    (hn : fn.ntmps = cx.ntmps) (hname : (fn.name == "runtime.NumGoroutine") = false) {fuel : Nat} (hlen : ∀ g, (sp.args g).length ≤ fn.ntmps)
    (hnew : ∀ g r t, t ∈ tagsOf (sp.new g r) → t ∈ sp.news) (hupd : sp.wr = true → ∀ g r t, t ∈ tagsOf (sp.upd g r) ↔ t ∈ tagsOf (sp.hp g))
    (hv : ∀ g, sp.pre g → vc cx fn.results.toList (nt g) (sp.ends g) fuel [.code c] (argSl 0 (sp.args g)) (sp.hp g)) : FnOk P f sp := by
  refine ⟨⟨fn, hf, hname, by rw [hb]; rfl⟩, fun g hpre hok w o hw => ?_, hnew, hupd⟩
  refine (calls_of_vc hcx hm hf hb hn (hlen g) hok (s := argSl 0 (sp.args g)) (fun i v h => (argSl_get 0 _ i v h).2) hw (hv g hpre)).mono ?_
  rintro e w' ⟨v, h', o', he, hvok, ⟨r, m, hsame, hm1, hm2, hent, hpost⟩, hw', hf'⟩
  obtain ⟨hd, hok'⟩ := SV.same_den hsame
  exact ⟨r, _, hpost, hok' hvok, by rw [he, hd], hw'.ent hent hm1 hm2, hf'.ent _⟩

end Ab
end Go
