/- An operation that only computes or reads: its value, in every world that holds the heap. -/
import Derived.Test.YtpggklkofilmfaaAbEq
import Derived.Test.YtpggklkofilmfaaAbSrc
set_option linter.unusedSimpArgs false
set_option linter.unnecessarySimpa false
set_option linter.unusedVariables false
namespace Go
namespace Ab
variable {P : Program}

theorem exec_of {op : Op} {ρ : Operand → Value} {o : Oper} (ho : o.op = op) {s : Sem Value} (he : execOp ρ { o with op := op } = (do pure (.value (← s)))) {w : World} {v : Value}
    (hs : s.run P w = .ok v w) : (execOp ρ o).run P w = .ok (.value v) w := by
  cases o
  dsimp only at ho
  subst ho
  rw [he, Sem.run_bind, hs]; rfl

theorem eqGuard_run {op : BinOp} {t : TypeId} {x y : Operand} {a b : Value} (h1 : a ≠ .nilIface) (h2 : ∀ c, a ≠ .agg c) (w : World) : (eqGuard op t x y a b).run P w = .ok () w := by
  cases a <;> first
    | exact absurd rfl h1
    | exact absurd rfl (h2 _)
    | (cases op <;> rfl)

theorem sl3_run {isSlice : Bool} {len cap : Nat} {lo hi mx : Option SV} {p : C} {l h m : Nat} (hh : sl3 len cap lo hi mx = some (p, l, h, m)) (hp : p.holds) (w : World) :
    (Instr.sliceBounds isSlice len cap (lo.map SV.den) (hi.map SV.den) (mx.map SV.den)).run P w = .ok (l, h, m) w := by
  have bound : ∀ (k : IntKind) (i : Int) (y : Nat) (code : BoundsCode) (w : World), 0 ≤ i ∧ i ≤ y → (Instr.sliceBound (.int k i) y code).run P w = .ok i.toNat w := by
    intro k i y code w hb
    simp [Instr.sliceBound, asIntOf, hb]
  unfold sl3 at hh
  split at hh <;> first
    | (simp only [Option.some.injEq, Prod.mk.injEq] at hh; obtain ⟨rfl, rfl, rfl, rfl⟩ := hh)
    | cases hh
  · simp [Instr.sliceBounds]
  · rename_i k l
    have hp : 0 ≤ l ∧ l ≤ len := hp
    have e : (SV.c (.v (.int k l))).den = .int k l := rfl
    simp only [Instr.sliceBounds, Option.map_some, Option.map_none, e, Sem.run_bind, Sem.run_pure, Result.andThen_ok, bound k l len _ _ hp]
  · rename_i k h
    have hp : 0 ≤ h ∧ h ≤ cap := hp
    have e : (SV.c (.v (.int k h))).den = .int k h := rfl
    simp only [Instr.sliceBounds, Option.map_some, Option.map_none, e, Sem.run_bind, Sem.run_pure, Result.andThen_ok, bound k h cap _ _ hp]
  · rename_i k l k' h
    have hp : 0 ≤ h ∧ h ≤ cap ∧ 0 ≤ l ∧ l ≤ h := hp
    have e : (SV.c (.v (.int k l))).den = .int k l := rfl
    have e' : (SV.c (.v (.int k' h))).den = .int k' h := rfl
    simp only [Instr.sliceBounds, Option.map_some, Option.map_none, e, e', Sem.run_bind, Sem.run_pure, Result.andThen_ok, bound k' h cap _ _ ⟨hp.1, hp.2.1⟩]
    rw [bound k l h.toNat _ _ ⟨hp.2.2.1, by omega⟩]
    rfl
  · rename_i k l k' h k'' m
    have hp : 0 ≤ m ∧ m ≤ cap ∧ 0 ≤ h ∧ h ≤ m ∧ 0 ≤ l ∧ l ≤ h := hp
    have e : (SV.c (.v (.int k l))).den = .int k l := rfl
    have e' : (SV.c (.v (.int k' h))).den = .int k' h := rfl
    have e'' : (SV.c (.v (.int k'' m))).den = .int k'' m := rfl
    simp only [Instr.sliceBounds, Option.map_some, Option.map_none, e, e', e'', Sem.run_bind, Sem.run_pure, Result.andThen_ok, bound k'' m cap _ _ ⟨hp.1, hp.2.1⟩]
    rw [bound k' h m.toNat _ _ ⟨hp.2.2.1, by omega⟩]
    simp only [Result.andThen_ok]
    rw [bound k l h.toNat _ _ ⟨hp.2.2.2.2.1, by omega⟩]
    rfl
  · rename_i k' h k'' m
    have hp : 0 ≤ m ∧ m ≤ cap ∧ 0 ≤ h ∧ h ≤ m := hp
    have e' : (SV.c (.v (.int k' h))).den = .int k' h := rfl
    have e'' : (SV.c (.v (.int k'' m))).den = .int k'' m := rfl
    simp only [Instr.sliceBounds, Option.map_some, Option.map_none, e', e'', Sem.run_bind, Sem.run_pure, Result.andThen_ok, bound k'' m cap _ _ ⟨hp.1, hp.2.1⟩]
    rw [bound k' h m.toNat _ _ ⟨hp.2.2.1, by omega⟩]
    rfl

theorem optV_map {n : Nat} {s : Sl} {a : Act} (h : SlOk n s a) {x : Option Operand} {v : Option SV} (hx : optV s x = some v) : x.map a.eval = v.map SV.den := by
  cases x with
  | none => simp only [optV, Option.some.injEq] at hx; subst hx; rfl
  | some x =>
    simp only [optV] at hx
    split at hx
    · rename_i y hy
      simp only [Option.some.injEq] at hx
      subst hx
      simp [h.eval hy]
    · cases hx

theorem sl3_none {len cap : Nat} {hi mx : Option SV} {p : C} {l h m : Nat} (hh : sl3 len cap none hi mx = some (p, l, h, m)) : l = 0 := by
  unfold sl3 at hh
  split at hh <;> simp_all
theorem offAt_eq {len cap : Nat} {lo hi mx : Option SV} {p : C} {l h m : Nat} (hh : sl3 len cap lo hi mx = some (p, l, h, m)) (o z : Nat) : offAt lo o l m z = if m = l then o else o + l * z := by
  unfold offAt
  cases lo with
  | none => have := sl3_none hh; subst this; simp
  | some _ => rfl
theorem ptrsOf_den : ∀ {vs : List SV} {l : List (Nat × Blk × Nat)}, ptrsOf vs = some l → vs.map SV.den = l.map fun x => Value.pointer (some (x.2.1.at x.2.2))
  | [], l, h => by simp only [ptrsOf, Option.some.injEq] at h; subst h; rfl
  | v :: r, l, h => by
    unfold ptrsOf at h
    split at h
    · rename_i heq; cases heq
    · rename_i t b o r' heq
      cases heq
      split at h
      · rename_i l' hl
        simp only [Option.some.injEq] at h
        subst h
        rw [List.map_cons, List.map_cons, ptrsOf_den hl]
        rfl
      · cases h
    · cases h
theorem addrIte (b : Blk) (o n : Nat) (c : Prop) [Decidable c] : (if c then b.at o else (b.at o).add n) = b.at (if c then o else o + n) := by
  split <;> simp [Blk.add_at]

theorem okB_ok {c : Cel} (h : c.okB = true) : c.ok := by
  cases c <;> simp only [Cel.okB] at h <;> first
    | exact h
    | exact beq_true h
    | trivial
theorem okB_all {l : List Cel} (h : l.all Cel.okB = true) : ∀ c ∈ l, c.ok := fun c hc => okB_ok (List.all_eq_true.1 h c hc)

theorem foldl_splice : ∀ (vs : List Value) (j : Nat) (cs : Array Value) (off : Nat),
    ((vs.zipIdx j).foldl (fun cs (x : Value × Nat) => cs.setIfInBounds (off + x.2) x.1) cs) = (splice cs.toList (off + j) vs).toArray
  | [], j, cs, off => by simp [splice]
  | v :: r, j, cs, off => by
    rw [List.zipIdx_cons, List.foldl_cons, foldl_splice r (j + 1)]
    simp [splice, Nat.add_assoc]
theorem fold_cells (v : Value) (cs : Array Value) (off : Nat) : (v.cells.zipIdx.foldl (fun cs (c, j) => cs.setIfInBounds (off + j) c) cs) = (splice cs.toList off v.cells.toList).toArray := by
  have := foldl_splice v.cells.toList 0 cs off
  rw [← Array.foldl_toList, Array.toList_zipIdx]
  simpa using this

theorem fill_ints {n : Nat} {s : Sl} {a : Act} (hs : SlOk n s a) (k : IntKind) : ∀ (ps : List (Nat × Operand)) (i : Nat) (l : List Int), litInts s k i ps = some l → ∀ (cells : List Value), i + l.length ≤ cells.length →
    Instr.fill (fun i => some (i * 1, 1)) cells.toArray (ps.map fun (i, x) => (i, a.eval x)) = some (splice cells i (l.map (.int k))).toArray
  | [], i, l, h, cells, _ => by simp only [litInts, Option.some.injEq] at h; subst h; simp [Instr.fill, splice]
  | (j, x) :: r, i, l, h, cells, hle => by
    simp only [litInts] at h
    split at h
    · rename_i k' m l' hb hx hl
      split at h
      · rename_i hk
        simp only [Option.some.injEq] at h
        subst h
        cases kindEq_true hk
        have hij := beq_true hb
        subst hij
        have hv : a.eval x = .int k m := hs.eval hx
        simp only [List.length_cons] at hle
        have ih := fill_ints hs k r (i + 1) l' hl (cells.set i (.int k m)) (by simp; omega)
        simp only [List.map_cons, Instr.fill, hv, Nat.mul_one]
        rw [if_neg (by simp [Value.cells]; omega)]
        have : (Value.int k m).cells.zipIdx.foldl (fun cs (x : Value × Nat) => cs.setIfInBounds (i + x.2) x.1) cells.toArray = (cells.set i (.int k m)).toArray := by
          have := fold_cells (.int k m) cells.toArray i
          simpa [Value.cells, splice] using this
        rw [this]
        simpa [splice] using ih
      · cases h
    · cases h

theorem cellsOf_den {v : SV} {cs : List Cel} (h : cellsOf v = some cs) (hv : v.ok) : v.den.cells.toList = valsOf cs ∧ ∀ c ∈ cs, c.ok := by
  unfold cellsOf at h
  split at h
  · rename_i x
    split at h
    · rename_i hx
      simp only [Option.some.injEq] at h
      subst h
      obtain ⟨h1, h2, h3⟩ := Cel.single_one hx
      refine ⟨?_, by simpa using h2⟩
      have : x.one.cells = #[x.one] := by
        unfold Value.cells
        split
        · rename_i cs hc; rw [hc] at h3; cases h3
        · rfl
      simp [SV.den, this, valsOf]
      exact h1.symm
    · cases h
  · simp only [Option.some.injEq] at h
    subst h
    exact ⟨by simp [SV.den, Value.cells], hv⟩
  · cases h

theorem fill_fields {cx : Cx} (htab : TabOk P cx.tab) {n : Nat} {s : Sl} {a : Act} (hs : SlOk n s a) (fs : List Field) : ∀ (ps : List (Nat × Operand)) (z : List Cel) (p : C) (l : List Cel),
    litFields cx s fs ps z = some (p, l) → p.holds → (∀ c ∈ z, c.ok) →
    (∀ (place : Nat → Option (Nat × Nat)), (∀ i f sz, fs[i]? = some f → (∃ ti, cx.tab f.type = some ti ∧ ti.size = sz) → place i = some (f.offset, sz)) →
      Instr.fill place (valsOf z).toArray (ps.map fun (i, x) => (i, a.eval x)) = some (valsOf l).toArray) ∧ ∀ c ∈ l, c.ok
  | [], z, p, l, h, _, hz => by
    simp only [litFields, Option.some.injEq, Prod.mk.injEq] at h
    obtain ⟨rfl, rfl⟩ := h
    exact ⟨fun _ _ => by simp [Instr.fill], hz⟩
  | (i, x) :: r, z, p, l, h, hp, hz => by
    simp only [litFields] at h
    split at h
    · rename_i f v hf hv
      split at h
      · rename_i u sz b ze cs ht hc
        split at h
        · rename_i q z' hb hw
          split at h
          · rename_i q' l' hl
            simp only [Option.some.injEq, Prod.mk.injEq] at h
            obtain ⟨rfl, rfl⟩ := h
            obtain ⟨hq, hq'⟩ := holds_and hp
            obtain ⟨hc1, hc2⟩ := cellsOf_den hc (hs.ok hv)
            obtain ⟨w1, w2, w3⟩ := wrN_spec cs z f.offset q z' hw hq hz hc2
            obtain ⟨i1, i2⟩ := fill_fields htab hs fs r z' q' l' hl hq' w3
            refine ⟨fun place hpl => ?_, i2⟩
            have hb := beq_true hb
            have hsz : (a.eval x).cells.size = sz + 1 := by
              rw [hs.eval hv, ← Array.length_toList, hc1, vals_length hc2, hb]
            simp only [List.map_cons, Instr.fill, hpl i f (sz + 1) hf ⟨_, ht, rfl⟩]
            rw [if_neg]
            · rw [fold_cells, hs.eval hv, hc1]
              simp only [← w2]
              exact i1 place hpl
            · simp only [hsz, bne_self_eq_false, Bool.false_or, decide_eq_true_eq, Nat.not_lt, List.size_toArray, ne_eq, not_true_eq_false, decide_false]
              rcases w1 with rfl | w1
              · have : sz + 1 = 0 := by rw [← hb]; rfl
                omega
              · rw [vals_length hc2, hb] at w1; omega
          · cases h
        · cases h
      · cases h
    · cases h

theorem places_of {tab : Tab} (htab : TabOk P tab) (sz : Field → Nat) : ∀ (fs : List Field), allIn tab fs = true → (∀ f ti, tab f.type = some ti → sz f = ti.size) →
    fs.mapM (fun f => (P.info? f.type).map fun i => (f.offset, i.size)) = some (fs.map fun f => (f.offset, sz f))
  | [], _, _ => rfl
  | f :: r, h, hsz => by
    simp only [allIn] at h
    split at h
    · rename_i ti ht
      obtain ⟨x, hx, hxs, _⟩ := (htab _ _ ht).info
      have ih := places_of htab sz r h hsz
      rw [List.mapM_cons, hx, ih]
      simp [hxs, hsz f ti ht]
    · cases h

theorem zeroV_cells {i : TI} (h : isRow i.und = true) : i.zeroV.cells = (valsOf i.zero).toArray := by simp [TI.zeroV, h, Value.cells]

theorem build_arr {t : TypeId} {i : TI} (ht : TyOk P t i) {m e : Nat} (hd : i.und = .array m e) {ie : TI} (he : TyOk P e ie) (ps : Array (Nat × Value)) (w : World) (cells : Array Value)
    (hc : Instr.fill (fun j => some (j * ie.size, ie.size)) (valsOf i.zero).toArray ps.toList = some cells) : (Instr.build t ps).run P w = .ok (.agg cells) w := by
  have hu := ht.und
  rw [hd] at hu
  unfold Instr.build
  simp only [Sem.run_bind, run_zero ht, Result.andThen_ok, run_underlying hu, run_size he, zeroV_cells (i := i) (by rw [hd]; rfl), hc]
  rfl

theorem build_struct {t : TypeId} {i : TI} (ht : TyOk P t i) {fs : Array Field} (hd : i.und = .struct fs) (places : List (Nat × Nat)) (hpl : fs.toList.mapM (fun f => (P.info? f.type).map fun i => (f.offset, i.size)) = some places)
    (ps : Array (Nat × Value)) (w : World) (cells : Array Value)
    (hc : Instr.fill (fun j => places.toArray[j]?) (valsOf i.zero).toArray ps.toList = some cells) : (Instr.build t ps).run P w = .ok (.agg cells) w := by
  have hu := ht.und
  rw [hd] at hu
  have hrun := run_places (P := P) w fs.toList _ hpl
  have hrun' : (fs.mapM fun f => (do pure (f.offset, ← sizeOf f.type) : Sem (Nat × Nat))).run P w = .ok places.toArray w := by
    rw [Array.mapM_eq_mapM_toList]
    have e : (fun f : Field => (do pure (f.offset, ← sizeOf f.type) : Sem (Nat × Nat))) = fun f => Prod.mk f.offset <$> sizeOf f.type := by
      funext f; simp
    rw [e]
    simp [hrun]
  unfold Instr.build
  simp only [Sem.run_bind, run_zero ht, Result.andThen_ok, run_underlying hu, zeroV_cells (i := i) (by rw [hd]; rfl), hrun', hc]
  rfl

theorem build_run {cx : Cx} (htab : TabOk P cx.tab) {n : Nat} {s : Sl} {a : Act} (hs : SlOk n s a) {w : World} {t : TypeId} {parts : Array (Nat × Operand)} {p : C} {v : SV}
    (hr : buildOp cx s t parts = .st p v) (hp : p.holds) (O : Oper) (hO : O.op = .build t parts) : (execOp a.eval O).run P w = .ok (.value v.den) w ∧ v.ok := by
  have ex : (execOp a.eval O) = (do pure (.value (← Instr.build t (parts.map fun (i, x) => (i, a.eval x))))) := by
    cases O; dsimp only at hO; subst hO; rfl
  have fin : ∀ z, (Instr.build t (parts.map fun (i, x) => (i, a.eval x))).run P w = .ok z w → (execOp a.eval O).run P w = .ok (.value z) w := by
    intro z hz
    rw [ex, Sem.run_bind, hz]; rfl
  unfold buildOp at hr
  split at hr
  · rename_i m e _ _ z ht
    have hti := htab _ _ ht
    split at hr
    · rename_i ue sz _ _ he
      split at hr
      · rename_i hp0
        injection hr with e1 e2; subst e1 e2
        have hpe : parts = #[] := by apply Array.ext'; simpa using hp0
        subst hpe
        exact ⟨fin _ (build_arr hti rfl (htab _ _ he) _ w _ (by simp [Instr.fill])), okB_all hti.zok⟩
      · split at hr
        · rename_i k m' l0 ki
          split at hr
          · rename_i l hl
            split at hr
            · rename_i hlen
              injection hr with e1 e2; subst e1 e2
              have hlen := beq_true hlen
              have hl0 : l0.length = m' := okB_all hti.zok _ (List.mem_singleton.2 rfl)
              have hok : (SV.agg [.ints k m' l]).ok := fun c hc => by simp only [List.mem_singleton] at hc; subst hc; exact hlen
              refine ⟨fin _ (build_arr hti rfl (htab _ _ he) _ w _ ?_), hok⟩
              have := fill_ints hs k parts.toList 0 l hl (valsOf [.ints k m' l0]) (by simp [Cel.vals, hl0, hlen])
              rw [Array.toList_map]
              refine this.trans ?_
              rw [splice_eq _ _ _ (by simp [Cel.vals, hl0, hlen])]
              simp [Cel.vals, hl0, hlen]
            · cases hr
          · cases hr
        · cases hr
    · cases hr
  · rename_i fs _ _ z ht
    have hti := htab _ _ ht
    split at hr
    · rename_i q l hall hl
      injection hr with e1 e2; subst e1 e2
      obtain ⟨h1, h2⟩ := fill_fields htab hs fs.toList parts.toList z q l hl hp (okB_all hti.zok)
      have hpl := places_of htab (fun f => match cx.tab f.type with | some ti => ti.size | none => 0) fs.toList hall (fun f ti h => by simp [h])
      refine ⟨fin _ (build_struct hti rfl _ hpl _ w _ ?_), h2⟩
      rw [Array.toList_map]
      refine h1 _ fun i f sz hf hsz => ?_
      obtain ⟨ti, ht, rfl⟩ := hsz
      simp only [List.getElem?_toArray, List.getElem?_map, hf, Option.map_some, ht]
    · cases hr
  · cases hr

set_option maxHeartbeats 1000000 in
theorem stillOp_run {cx : Cx} (htab : TabOk P cx.tab) {n : Nat} {s : Sl} {a : Act} (hs : SlOk n s a) {h : Hp} {o : Nat → Option Ow} {w : World} {op : Op} {p : C} {v : SV}
    (hr : stillOp cx s h op = .st p v) (hp : p.holds) (hw : reads cx op → Own h o w) (O : Oper) (hO : O.op = op) :
    (execOp a.eval O).run P w = .ok (.value v.den) w ∧ v.ok := by
  unfold stillOp at hr
  split at hr
  · -- move
    rename_i x
    split at hr
    · rename_i v' hx
      injection hr with h1 h2; subst h1 h2
      exact ⟨exec_of hO (s := pure (a.eval x)) rfl (by rw [hs.eval hx]; rfl), hs.ok hx⟩
    · cases hr
  · rename_i x
    split at hr
    · rename_i v' hx
      injection hr with h1 h2; subst h1 h2
      exact ⟨exec_of hO (s := pure (a.eval x)) rfl (by rw [hs.eval hx]; rfl), hs.ok hx⟩
    · cases hr
  · -- pick
    rename_i c x y
    have key : ∀ b : Bool, a.eval c = .bool b → (execOp a.eval O).run P w = .ok (.value (if b then a.eval x else a.eval y)) w := by
      intro b hb
      cases O; dsimp only at hO; subst hO
      simp [execOp, hb, asBool]
    split at hr
    · rename_i b x' y' h1 h2 h3
      injection hr with e1 e2; subst e1 e2
      refine ⟨?_, trivial⟩
      rw [key b (hs.eval h1), hs.eval h2, hs.eval h3]
      cases b <;> rfl
    · rename_i b x' y' _ h1 h2 h3
      split at hr
      · injection hr with e1 e2; subst e1 e2
        refine ⟨?_, hs.ok h2⟩
        rw [key _ (hs.eval h1), hs.eval h2]; rfl
      · injection hr with e1 e2; subst e1 e2
        refine ⟨?_, hs.ok h3⟩
        rw [key _ (hs.eval h1), hs.eval h3]; rfl
    · cases hr
  · -- nilCheck
    rename_i x
    split at hr
    · rename_i t b f hx
      injection hr with e1 e2; subst e1 e2
      refine ⟨?_, trivial⟩
      cases O; dsimp only at hO; subst hO
      simp [execOp, hs.eval hx, SV.den, Cel.one, Cel.vals]
    · cases hr
  · -- binOp
    rename_i op t x y yt
    have gen : ∀ (z : Value), ((do eqGuard op t x y (a.eval x) (a.eval y); binOp op t (a.eval x) (a.eval y)) : Sem Value).run P w = .ok z w →
        (execOp a.eval O).run P w = .ok (.value z) w := fun z hz => exec_of hO (s := do eqGuard op t x y (a.eval x) (a.eval y); binOp op t (a.eval x) (a.eval y)) rfl hz
    split at hr
    · rename_i x' y' hx hy
      unfold res at hr
      split at hr
      · rename_i q v' hb
        injection hr with e1 e2; subst e1 e2
        have hok : v'.ok := by
          unfold binAgg at hb
          split at hb
          · split at hb
            · split at hb
              · split at hb <;> first
                  | (simp only [Option.some.injEq, Prod.mk.injEq] at hb; obtain ⟨_, rfl⟩ := hb; trivial)
                  | cases hb
              · cases hb
            · cases hb
          · split at hb
            · split at hb <;> first
                | (simp only [Option.some.injEq, Prod.mk.injEq] at hb; obtain ⟨_, rfl⟩ := hb; trivial)
                | cases hb
            · cases hb
          · cases hb
        refine ⟨gen _ ?_, hok⟩
        rw [hs.eval hx, hs.eval hy]
        exact binAgg_run htab hb (hs.ok hx) (hs.ok hy) x y w
      · cases hr
    · rename_i tg b off len cap z n' c' hx hy
      unfold res at hr
      split at hr
      · rename_i q v' hb
        injection hr with e1 e2; subst e1 e2
        have hxd : (SV.c (.sl tg b off len cap z)).den = .slice (baseOf b off z) len cap := rfl
        have hyd : (SV.c (.v (.slice none n' c'))).den = .slice none n' c' := rfl
        have heq : ∀ e, P.underlying t = some (.slice e) → (Op.equalIn (9999 + 1) t (.slice (baseOf b off z) len cap) (.slice none n' c')).run P w = .ok (!(Nat.beq z 0)) w := by
          intro e hu
          rw [Op.equalIn, Sem.run_bind, run_underlying hu]
          cases z <;> rfl
        unfold slNil at hb
        split at hb
        · rename_i ht
          simp only [Option.some.injEq, Prod.mk.injEq] at hb
          obtain ⟨rfl, rfl⟩ := hb
          refine ⟨gen _ ?_, trivial⟩
          rw [hs.eval hx, hs.eval hy, hxd, hyd, Sem.run_bind, eqGuard_run (by simp) (by simp)]
          simp only [Result.andThen_ok]
          exact binOp_eql (by simp) (by simp) (by simp) (by simp) (heq _ (htab _ _ ht).und)
        · rename_i ht
          simp only [Option.some.injEq, Prod.mk.injEq] at hb
          obtain ⟨rfl, rfl⟩ := hb
          refine ⟨gen _ ?_, trivial⟩
          rw [hs.eval hx, hs.eval hy, hxd, hyd, Sem.run_bind, eqGuard_run (by simp) (by simp)]
          simp only [Result.andThen_ok]
          rw [binOp_neq (by simp) (by simp) (by simp) (by simp) (heq _ (htab _ _ ht).und)]
          simp [SV.den, Cel.one, Cel.vals]
        · cases hb
      · cases hr
    · rename_i x' y' hne _ hx hy
      split at hr
      · rename_i hf
        unfold res at hr
        split at hr
        · rename_i q v' hb
          injection hr with e1 e2; subst e1 e2
          have shape : (∃ k m, x' = .int k m) ∨ (∃ b, x' = .bool b) ∨ (∃ b, x'.den = .pointer b ∧ ((∃ t b o, x' = .c (.ptr t b o)) ∨ ∃ b, x' = .c (.v (.pointer b)))) ∨ (∃ s, x' = .c (.v (.string s))) := by
            unfold binV at hb
            split at hb <;> first
              | exact .inl ⟨_, _, rfl⟩
              | exact .inr (.inl ⟨_, rfl⟩)
              | exact .inr (.inr (.inl ⟨_, rfl, .inl ⟨_, _, _, rfl⟩⟩))
              | exact .inr (.inr (.inl ⟨_, rfl, .inr ⟨_, rfl⟩⟩))
              | exact .inr (.inr (.inr ⟨_, rfl⟩))
              | cases hb
          have hg : ∀ w, (eqGuard op t x y (a.eval x) (a.eval y)).run P w = .ok () w := by
            intro w
            rw [hs.eval hx]
            refine eqGuard_run ?_ ?_ w
            · rcases shape with ⟨k, m, rfl⟩ | ⟨b, rfl⟩ | ⟨b, hb, _⟩ | ⟨s, rfl⟩
              · simp [SV.den, Cel.one, Cel.vals]
              · simp [SV.den, Cel.one, Cel.vals]
              · rw [hb]; simp
              · simp [SV.den, Cel.one, Cel.vals]
            · rcases shape with ⟨k, m, rfl⟩ | ⟨b, rfl⟩ | ⟨b, hb, _⟩ | ⟨s, rfl⟩
              · simp [SV.den, Cel.one, Cel.vals]
              · simp [SV.den, Cel.one, Cel.vals]
              · rw [hb]; simp
              · simp [SV.den, Cel.one, Cel.vals]
          have hok : v'.ok := by
            have : ∀ {pl k m i q z}, binInt pl op k m i = some (q, z) → z.ok := by
              intro pl k m i q z hz
              cases op <;> simp only [binInt, plainInt] at hz <;> (try split at hz) <;> first
                | (simp only [Option.some.injEq, Prod.mk.injEq] at hz; obtain ⟨_, rfl⟩ := hz; trivial)
                | cases hz
            unfold binV at hb
            split at hb <;> (try split at hb) <;> (try split at hb) <;> first
              | (simp only [Option.some.injEq, Prod.mk.injEq] at hb; obtain ⟨_, rfl⟩ := hb; trivial)
              | exact this hb
              | cases hb
          refine ⟨gen _ ?_, hok⟩
          rw [Sem.run_bind, hg]
          simp only [Result.andThen_ok]
          rw [hs.eval hx, hs.eval hy]
          refine binV_run hb hp t w ⟨fun c hc => ?_, fun b hb' => ?_⟩
          · rcases shape with ⟨k, m, rfl⟩ | ⟨b, rfl⟩ | ⟨b, hb, hsh⟩ | ⟨s, rfl⟩
            · simp [SV.den, Cel.one, Cel.vals] at hc
            · simp [SV.den, Cel.one, Cel.vals] at hc
            · rcases hsh with ⟨_, _, _, rfl⟩ | ⟨_, rfl⟩ <;>
              · simp only [typeFits] at hf
                split at hf
                · rename_i ht; exact ⟨_, (htab _ _ ht).und⟩
                · cases hf
            · simp [SV.den, Cel.one, Cel.vals] at hc
          · rcases shape with ⟨k, m, rfl⟩ | ⟨b, rfl⟩ | ⟨b, hb, hsh⟩ | ⟨s, rfl⟩
            · simp [SV.den, Cel.one, Cel.vals] at hb'
            · simp only [typeFits] at hf
              split at hf
              · rename_i ht; exact (htab _ _ ht).und
              · cases hf
            · rw [hb] at hb'; cases hb'
            · simp [SV.den, Cel.one, Cel.vals] at hb'
        · cases hr
      · cases hr
    · cases hr
  · -- unOp
    rename_i uop t x
    split at hr <;> first
      | (injection hr with e1 e2
         subst e1 e2
         rename_i hx
         refine ⟨exec_of hO (s := Op.unary _ (a.eval x)) rfl ?_, trivial⟩
         rw [hs.eval hx]
         simp [Op.unary, Op.intBits, Op.intArith, SV.den, Cel.one, Cel.vals, inot, ixor, isub])
      | cases hr
  · -- convert
    rename_i sr d x
    split at hr
    · rename_i ts k _ _ _ k' m h1 h2 h3
      injection hr with e1 e2; subst e1 e2
      refine ⟨exec_of hO (s := Go.convert sr d (a.eval x)) rfl ?_, trivial⟩
      rw [hs.eval h3]
      have hu := (htab _ _ h1).und
      have hd := (htab _ _ h2).und
      have hden : (SV.int k' m).den = .int k' m := rfl
      rw [hden]
      unfold Go.convert
      simp only [Sem.run_bind, run_underlying hu, run_underlying hd, Result.andThen_ok]
      rfl
    · rename_i e _ _ _ _ _ _ tg b off m c z h1 h2 h3
      split at hr
      · rename_i q nn L he hsrc
        injection hr with e1 e2; subst e1 e2
        have hown := hw (by unfold reads; simp only [h2])
        refine ⟨exec_of hO (s := Go.convert sr d (a.eval x)) rfl ?_, trivial⟩
        rw [hs.eval h3]
        have hden : (SV.c (.sl tg b off m c z)).den = .slice (baseOf b off z) m c := rfl
        rw [hden, run_convert_bytes_string w sr d e _ m c (htab _ _ h1).und (htab _ _ he).und (htab _ _ h2).und, ← hden]
        exact srcInts_string hown hsrc hp hden
      · cases hr
    · cases hr
  · -- sliceToArrayPointer
    rename_i t x
    split at hr
    · rename_i nn e _ _ _ tg b off m c z h1 h2
      injection hr with e1 e2; subst e1 e2
      obtain ⟨hle, rfl⟩ := hp
      refine ⟨exec_of hO (s := Instr.arrayAt t (a.eval x)) rfl ?_, trivial⟩
      rw [hs.eval h2]
      have hden : (SV.c (.sl tg b off m c 0)).den = .slice (some (b.at off)) m c := rfl
      rw [hden]
      have hlt : ¬ (m < nn) := by omega
      simp [Instr.arrayAt, run_underlying (htab _ _ h1).und, hlt, SV.den, Cel.one, Cel.vals]
    · cases hr
  · -- fieldAddr
    rename_i t x f
    split at hr
    · rename_i fs _ _ _ tg b off h1 h2
      split at hr
      · rename_i fd hfd
        split at hr
        · rename_i und z by' ze htf
          injection hr with e1 e2; subst e1 e2
          refine ⟨exec_of hO (s := Instr.fieldAt t (a.eval x) f) rfl ?_, trivial⟩
          rw [hs.eval h2]
          have hu := (htab _ _ h1).und
          have hz := run_size (htab _ _ htf)
          have hden : (SV.c (.ptr tg b off)).den = .pointer (some (b.at off)) := rfl
          rw [hden]
          unfold Instr.fieldAt
          simp only [Sem.run_bind, run_underlying hu, Result.andThen_ok, hfd, Instr.sureAddr, Sem.run_pure, fieldPlace, hz, Sem.run_ite]
          simp [Blk.add_at, SV.den, Cel.one, Cel.vals]
        · cases hr
      · cases hr
    · cases hr
  · -- indexAddr
    rename_i t x ix
    split at hr
    · rename_i m e _ _ _ tg b off k i h1 h2 h3
      split at hr
      · rename_i ue z _ _ he
        injection hr with e1 e2; subst e1 e2
        have hp : 0 ≤ i ∧ i < (m : Int) := hp
        refine ⟨exec_of hO (s := Instr.indexAt t (a.eval x) (a.eval ix)) rfl ?_, trivial⟩
        rw [hs.eval h2, hs.eval h3]
        have hu := (htab _ _ h1).und
        have hz := run_size (htab _ _ he)
        have hden : (SV.c (.ptr tg b off)).den = .pointer (some (b.at off)) := rfl
        have hden' : (SV.int k i).den = .int k i := rfl
        rw [hden, hden']
        unfold Instr.indexAt
        simp only [Sem.run_bind, asIntOf, Sem.run_pure, run_underlying hu, Result.andThen_ok, Instr.sureAddr, hp.1, hp.2, and_self, if_true, hz]
        simp [Blk.add_at, SV.den, Cel.one, Cel.vals]
      · cases hr
    · rename_i e _ _ _ tg b off m c nl k i h1 h2 h3
      split at hr
      · rename_i ue z _ _ he
        injection hr with e1 e2; subst e1 e2
        have hp : 0 ≤ i ∧ i < (m : Int) ∧ nl = 0 := hp
        obtain ⟨hp1, hp2, hp3⟩ := hp
        subst hp3
        have hp : 0 ≤ i ∧ i < (m : Int) := ⟨hp1, hp2⟩
        refine ⟨exec_of hO (s := Instr.indexAt t (a.eval x) (a.eval ix)) rfl ?_, trivial⟩
        rw [hs.eval h2, hs.eval h3]
        have hu := (htab _ _ h1).und
        have hz := run_size (htab _ _ he)
        have hden : (SV.c (.sl tg b off m c 0)).den = .slice (some (b.at off)) m c := rfl
        have hden' : (SV.int k i).den = .int k i := rfl
        rw [hden, hden']
        unfold Instr.indexAt
        simp only [Sem.run_bind, asIntOf, Sem.run_pure, run_underlying hu, Result.andThen_ok, Instr.sureAddr, hp.1, hp.2, and_self, if_true, hz]
        simp [Blk.add_at, SV.den, Cel.one, Cel.vals]
      · cases hr
    · cases hr
  · -- index
    rename_i t x ix
    split at hr
    · rename_i m e _ _ _ k m' l k' i h1 h2 h3
      split at hr
      · rename_i ke _ _ he hm
        injection hr with e1 e2; subst e1 e2
        have hp : 0 ≤ i ∧ i < (m : Int) := hp
        have hm := beq_true hm
        have hl : l.length = m' := (hs.ok h2) _ (List.mem_singleton.2 rfl)
        refine ⟨exec_of hO (s := Instr.index t (a.eval x) (a.eval ix)) rfl ?_, trivial⟩
        rw [hs.eval h2, hs.eval h3]
        have hu := (htab _ _ h1).und
        have hue := (htab _ _ he).und
        have hz := run_size (htab _ _ he)
        have hden : (SV.agg [.ints k m' l]).den = .agg (l.map (.int k)).toArray := by simp [SV.den, Cel.vals]
        have hden' : (SV.int k' i).den = .int k' i := rfl
        rw [hden, hden']
        unfold Instr.index
        have hlt : i.toNat < l.length := by omega
        simp only [Sem.run_bind, asIntOf, Sem.run_pure, run_underlying hu, Result.andThen_ok, hp.1, hp.2, and_self, if_true, hz, part, isAgg, run_underlying hue]
        simp [hlt, SV.den, Cel.one, Cel.vals, List.getD]
      · cases hr
    · cases hr
  · -- slice
    rename_i t x lo hi mx
    split at hr
    · rename_i m e _ _ _ tg b off lo' hi' mx' h1 h2 h3 h4 h5
      split at hr
      · rename_i ue z _ _ q l hh mm he hsl
        injection hr with e1 e2; subst e1 e2
        refine ⟨exec_of hO (s := Instr.sliceAt t (a.eval x) (lo.map a.eval) (hi.map a.eval) (mx.map a.eval)) rfl ?_, trivial⟩
        rw [hs.eval h2, optV_map hs h3, optV_map hs h4, optV_map hs h5]
        have hu := (htab _ _ h1).und
        have hz := run_size (htab _ _ he)
        have hden : (SV.c (.ptr tg b off)).den = .pointer (some (b.at off)) := rfl
        rw [hden]
        unfold Instr.sliceAt
        simp only [Sem.run_bind, run_underlying hu, Result.andThen_ok, Instr.sureAddr, Sem.run_pure, sl3_run hsl hp, hz, addrIte]
        rw [offAt_eq hsl]
        simp [SV.den, Cel.one, Cel.vals, baseOf]
      · cases hr
    · rename_i e _ _ _ tg b off m c nl lo' hi' mx' h1 h2 h3 h4 h5
      split at hr
      · rename_i ue z _ _ q l hh mm he hsl
        injection hr with e1 e2; subst e1 e2
        refine ⟨exec_of hO (s := Instr.sliceAt t (a.eval x) (lo.map a.eval) (hi.map a.eval) (mx.map a.eval)) rfl ?_, trivial⟩
        rw [hs.eval h2, optV_map hs h3, optV_map hs h4, optV_map hs h5]
        have hu := (htab _ _ h1).und
        have hz := run_size (htab _ _ he)
        have hden : (SV.c (.sl tg b off m c nl)).den = .slice (baseOf b off nl) m c := rfl
        rw [hden]
        unfold Instr.sliceAt
        simp only [Sem.run_bind, run_underlying hu, Result.andThen_ok, Instr.slice, Sem.run_pure, sl3_run hsl hp, hz, Option.map_some, addrIte]
        rw [offAt_eq hsl]
        cases nl <;> by_cases hml : mm = l <;> simp [SV.den, Cel.one, Cel.vals, Blk.add_at, baseOf, hml]
      · cases hr
    · cases hr
  · -- makeFunc
    rename_i f first caps
    split at hr
    · rename_i vs hf hv
      split at hr
      · rename_i l hl
        injection hr with e1 e2; subst e1 e2
        refine ⟨exec_of hO (s := Instr.makeFunc (.func f) (first.map a.eval) (caps.map a.eval)) rfl ?_, trivial⟩
        have h1 : first = #[] := by apply Array.ext'; simpa using hf
        have h2 : caps.map a.eval = (vs.map SV.den).toArray := by
          apply Array.ext'; rw [Array.toList_map, hs.evals hv]
        rw [h1, h2, ptrsOf_den hl, show (Array.map a.eval #[]) = #[] by simp]
        rfl
      · cases hr
    · cases hr
  · -- extract
    rename_i x i
    split at hr
    · rename_i l hx
      split at hr
      · rename_i y hy
        injection hr with e1 e2; subst e1 e2
        refine ⟨exec_of hO (s := Instr.extract (a.eval x) i) rfl ?_, ?_⟩
        · rw [hs.eval hx]
          have hden : (SV.tup l).den = .tuple (l.map SA.den).toArray := rfl
          rw [hden]
          simp [Instr.extract, hy]
          cases y <;> rfl
        · have := hs.ok hx y (List.mem_of_getElem? hy)
          cases y <;> exact this
      · cases hr
    · cases hr
  · -- build
    rename_i t parts
    exact build_run htab hs hr hp O hO
  · -- load
    rename_i t x
    split at hr
    · rename_i und z _ _ tg b off h1 h2
      split at hr
      · rename_i b' ty l hg
        have hown := hw trivial
        have hb : b = b' := by
          split at hr
          · split at hr
            · injection hr with e1 e2; subst e1
              rename_i q _ _
              cases q with
              | none => exact hp
              | some q => exact hp.1
            · cases hr
          · split at hr
            · injection hr with e1 e2; subst e1
              rename_i q _ _
              cases q with
              | none => exact hp
              | some q => exact hp.1
            · cases hr
        subst hb
        refine ⟨exec_of hO (s := Instr.loadAt t (a.eval x)) rfl ?_, ?_⟩
        · rw [hs.eval h2]
          exact run_load_cells hown hg (htab _ _ h1) hp hr
        · have hok := hown.oks hg
          split at hr
          · split at hr
            · rename_i q v' hrd
              injection hr with e1 e2; subst e1 e2
              have hq : q.holds := by cases q with | none => trivial | some q => exact hp.2
              exact (rdN_spec l off z q v' hrd hq hok).2.2
            · cases hr
          · split at hr
            · injection hr with e1 e2; subst e2; trivial
            · cases hr
      · cases hr
    · cases hr
  · -- builtins
    rename_i b args ats
    have gen : ∀ (s : TypeId → Sem Value) (z : Value), (∀ type consts, builtin b ats type consts (args.map a.eval) = (do pure (.value (← s type)))) → (∀ type, (s type).run P w = .ok z w) →
        (execOp a.eval O).run P w = .ok (.value z) w := by
      intro s z he hz
      cases O; dsimp only at hO; subst hO
      simp only [execOp, resolve, Sem.run_bind, Sem.run_pure, Result.andThen_ok, invoke, he, hz]
    split at hr
    · -- len
      rename_i x t hargs hats
      have hargs : args = #[x] := by apply Array.ext'; simpa using hargs
      have hats : ats = #[t] := by apply Array.ext'; simpa using hats
      subst hargs hats
      have lenr : ∀ (d : TypeDesc) (v : Value) (z : Value), P.underlying t = some d → (∀ w, ((match d, v with
          | .string, .string s => pure (goInt s.size)
          | .array n _, _ => pure (goInt n)
          | .slice _, .slice _ n _ => pure (goInt n)
          | _, _ => stuck "" : Sem Value)).run P w = .ok z w) → a.eval x = v → (execOp a.eval O).run P w = .ok (.value z) w := by
        intro d v z hd hz hv
        refine gen (fun type => Builtin.len_ #[t] type #[a.eval x]) z (fun type consts => by simp [builtin]) fun type => ?_
        rw [hv]
        have hz := hz w
        unfold Builtin.len_
        cases d <;> cases v <;> simp_all [run_underlying hd, stuck]
      split at hr
      · rename_i s' h1 h2
        injection hr with e1 e2; subst e1 e2
        exact ⟨lenr _ (.string s') _ (htab _ _ h1).und (fun _ => rfl) (hs.eval h2), trivial⟩
      · rename_i tg b off m c nl h1 h2
        injection hr with e1 e2; subst e1 e2
        exact ⟨lenr _ (.slice (baseOf b off nl) m c) _ (htab _ _ h1).und (fun _ => rfl) (hs.eval h2), trivial⟩
      · rename_i b m c h1 h2
        injection hr with e1 e2; subst e1 e2
        exact ⟨lenr _ (.slice b m c) _ (htab _ _ h1).und (fun _ => rfl) (hs.eval h2), trivial⟩
      · rename_i m e _ _ _ y h1 h2
        injection hr with e1 e2; subst e1 e2
        exact ⟨lenr _ y.den _ (htab _ _ h1).und (fun _ => rfl) (hs.eval h2), trivial⟩
      · cases hr
    · rename_i x y hargs
      have hargs : args = #[x, y] := by apply Array.ext'; simpa using hargs
      subst hargs
      split at hr
      · rename_i k i k' j h1 h2
        injection hr with e1 e2; subst e1 e2
        refine ⟨gen (fun type => Builtin.min_ ats type #[a.eval x, a.eval y]) _ (fun type consts => by simp [builtin]) fun type => ?_, trivial⟩
        rw [hs.eval h1, hs.eval h2]
        rfl
      · cases hr
    · rename_i x y hargs
      have hargs : args = #[x, y] := by apply Array.ext'; simpa using hargs
      subst hargs
      split at hr
      · rename_i k i k' j h1 h2
        injection hr with e1 e2; subst e1 e2
        refine ⟨gen (fun type => Builtin.max_ ats type #[a.eval x, a.eval y]) _ (fun type consts => by simp [builtin]) fun type => ?_, trivial⟩
        rw [hs.eval h1, hs.eval h2]
        rfl
      · cases hr
    · cases hr
  · cases hr

theorem res_st {x : Option (C × SV)} : (∀ p v h', res x ≠ .det p v h') ∧ ∀ p R q v h', res x ≠ .eff p R q v h' := by
  unfold res
  split <;> exact ⟨nofun, nofun⟩
theorem buildOp_st {cx : Cx} {s : Sl} {t : TypeId} {parts : Array (Nat × Operand)} : (∀ p v h', buildOp cx s t parts ≠ .det p v h') ∧ ∀ p R q v h', buildOp cx s t parts ≠ .eff p R q v h' := by
  unfold buildOp
  (repeat' split) <;> exact ⟨nofun, nofun⟩
theorem stillOp_st {cx : Cx} {s : Sl} {h : Hp} {op : Op} : (∀ p v h', stillOp cx s h op ≠ .det p v h') ∧ ∀ p R q v h', stillOp cx s h op ≠ .eff p R q v h' := by
  unfold stillOp
  (repeat' split) <;> first
    | exact res_st
    | exact buildOp_st
    | exact ⟨nofun, nofun⟩
theorem stillOp_det {cx : Cx} {s : Sl} {h : Hp} {op : Op} {p : C} {v : SV} {h' : Hp} : stillOp cx s h op ≠ .det p v h' := stillOp_st.1 _ _ _
theorem stillOp_eff {cx : Cx} {s : Sl} {h : Hp} {op : Op} {p : C} {R : Type} {q : R → Prop} {v : R → SV} {h' : R → Hp} : stillOp cx s h op ≠ .eff p R q v h' := stillOp_st.2 _ _ _ _ _

end Ab
end Go
