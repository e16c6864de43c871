/- What an operation does to memory: the abstract machine's heap is the model's. -/
import Derived.Test.YtpggklkofilmfaaAbGrow
set_option linter.unusedSimpArgs false
set_option linter.unnecessarySimpa false
set_option linter.unusedVariables false
namespace Go
namespace Ab
variable {P : Program}

theorem run_store {h : Hp} {o : Nat → Option Ow} {w : World} (hw : Own h o w) {tg : Nat} {b : Blk} {ty : TypeId} {l : List Cel} (hg : h.get tg = some (b, .cells ty l))
    {t : TypeId} {i : TI} (ht : TyOk P t i) {off : Nat} {v : Value} {vs : List Value} (hv : v.cells.toList = vs) (hsz : vs.length = i.size) (hone : ∀ x ∈ vs, x.oneCell' = true)
    (hle : off + vs.length ≤ (valsOf l).length) : (Instr.storeAt t (.pointer (some (b.at off))) v).run P w = .ok () (w.setCells b.n (b.lo + off) vs) := by
  have hs : v.cells.size = i.size := by rw [← Array.length_toList, hv, hsz]
  simp only [Instr.storeAt, Instr.sureAddr, Sem.run_bind, Sem.run_pure, Result.andThen_ok, storeVar, run_size ht, hs, ne_eq, not_true_eq_false, if_false]
  have hat : ∀ j, (⟨b.n, b.lo + off + j, none⟩ : Addr) = b.at (off + j) := fun j => by unfold Blk.at; rw [Nat.add_assoc]
  have := run_storeCells_cells (P := P) b.n (b.lo + off) vs 0 w (fun j hj => by
    rw [Nat.add_zero, hat, hw.cell hg (i := off + j) (v := (valsOf l)[off + j]'(by omega)) (by rw [List.getElem?_eq_getElem])]; rfl)
    (fun j hj => by rw [Nat.add_zero, hat]; exact hw.notFrozen hg (by omega)) hone
  rw [hv]
  simpa [Blk.at] using this

theorem run_newRow (w : World) (e : TypeId) (cells : Array Value) : (newRow e cells).run P w = .ok ⟨w.heap.size, 0, none⟩ { w with heap := w.heap.push (.cells cells e) } := rfl

/-- What holds of each outcome. -/
def Res.fits (h : Hp) (F : SV → Hp → Prop) : Res → Prop
  | .bad => False
  | .st p v => p.holds ∧ F v h
  | .det p v h' => p.holds ∧ F v h'
  | .eff p R q v h' => p.holds ∧ ∀ r : R, q r → F (v r) (h' r)

theorem Res.fits_mono {h : Hp} {F G : SV → Hp → Prop} (hm : ∀ v h, F v h → G v h) {r : Res} (hr : r.fits h F) : r.fits h G := by
  cases r with
  | bad => exact hr
  | st p v => exact ⟨hr.1, hm _ _ hr.2⟩
  | det p v h' => exact ⟨hr.1, hm _ _ hr.2⟩
  | eff p R q v h' => exact ⟨hr.1, fun r hq => hm _ _ (hr.2 r hq)⟩

/-- A contract holds of a function. -/
structure ConOk (P : Program) (f : FuncId) (c : Con) : Prop where
  func : ∃ fn, P.funcs[f]? = some fn ∧ (fn.name == "runtime.NumGoroutine") = false ∧ fn.body.isSome = true
  calls : ∀ (fr : Nat) (vs : List SV) (h : Hp) (F : SV → Hp → Prop), (c.run fr vs h).fits h F → (∀ v ∈ vs, v.ok) → ∀ (w : World) (o : Nat → Option Ow), Own h o w →
    Calls P f (vs.map SV.den).toArray w fun e w' => ∃ v h' o', e = .returned v.den ∧ v.ok ∧ F v h' ∧ Own h' o' w' ∧ Fr w o w' o'
  keeps : c.wr = false → ∀ (fr : Nat) (vs : List SV) (h : Hp), (c.run fr vs h).fits h (fun _ _ => True) → (c.run fr vs h).fits h (fun _ h' => Hext h h')

structure CxOk (P : Program) (cx : Cx) : Prop where
  tab : TabOk P cx.tab
  con : ∀ f c, cx.con f = some c → ConOk P f c

theorem Own.new {h : Hp} {o : Nat → Option Ow} {w : World} (hw : Own h o w) {t : Nat} (hn : h.get t = none) (e : TypeId) {l : List Cel} (hok : ∀ c ∈ l, c.ok) {cells : Array Value} (hc : cells = (valsOf l).toArray) :
    ∃ o', Own (h.put t (newB w) (.cells e l)) o' { w with heap := w.heap.push (.cells cells e) } ∧ Fr w o { w with heap := w.heap.push (.cells cells e) } o' := by
  subst hc
  exact hw.alloc hn hok (fr := (0, 0)) (.inl rfl)

theorem exec_value {op : Op} {ρ : Operand → Value} {O : Oper} (hO : O.op = op) {s : Sem Value} (he : execOp ρ { O with op := op } = (do pure (.value (← s)))) {a : Act} (hρ : ρ = a.eval) {w w' : World} {v : Value}
    (hs : s.run P w = .ok v w') {K : Act → World → Prop} {Q : Exit → Act → World → Prop} (hk : K (a.put O.dst v) w') : O.wp P a w K Q := by
  subst hρ
  unfold Oper.wp
  cases O
  dsimp only at hO
  subst hO
  rw [he, Sem.run_bind, hs]
  exact hk

theorem fill_full (l : List Value) (cells : Array Value) (h : cells.size = l.length) : (splice cells.toList 0 l).toArray = l.toArray := by
  rw [splice_eq _ _ _ (by simp [h])]
  simp [← h]

theorem litCells_spec {n : Nat} {s : Sl} {a : Act} (hs : SlOk n s a) : ∀ (ps : List (Nat × Operand)) (i : Nat) (l : List Cel), litCells s i ps = some l →
    (∀ c ∈ l, c.ok) ∧ (valsOf l).length = l.length ∧ ∀ (cells : List Value), i + l.length ≤ cells.length →
    Instr.fill (fun i => some (i * 1, 1)) cells.toArray (ps.map fun (i, x) => (i, a.eval x)) = some (splice cells i (valsOf l)).toArray
  | [], i, l, h => by simp only [litCells, Option.some.injEq] at h; subst h; exact ⟨by simp, rfl, fun cells _ => by simp [Instr.fill, splice]⟩
  | (j, x) :: r, i, l, h => by
    simp only [litCells] at h
    split at h
    · rename_i y l' hb hx hl
      split at h
      · rename_i hsing
        simp only [Option.some.injEq] at h
        subst h
        obtain ⟨h1, h2, h3⟩ := Cel.single_one hsing
        have hij := beq_true hb
        subst hij
        have hv : a.eval x = y.one := hs.eval hx
        obtain ⟨i1, i2, i3⟩ := litCells_spec hs r (i + 1) l' hl
        refine ⟨fun c hc => ?_, by rw [valsOf_cons, h1]; simp [i2], fun cells hle => ?_⟩
        · simp only [List.mem_cons] at hc
          rcases hc with rfl | hc
          · exact h2
          · exact i1 c hc
        · simp only [List.length_cons] at hle
          have ih := i3 (cells.set i y.one) (by simp; omega)
          have hcel : y.one.cells = #[y.one] := by
            unfold Value.cells
            split
            · rename_i cs hc; rw [hc] at h3; cases h3
            · rfl
          simp only [List.map_cons, Instr.fill, hv, Nat.mul_one]
          rw [if_neg (by simp [hcel]; omega)]
          have : y.one.cells.zipIdx.foldl (fun cs (x : Value × Nat) => cs.setIfInBounds (i + x.2) x.1) cells.toArray = (cells.set i y.one).toArray := by
            have := fold_cells y.one cells.toArray i
            simpa [hcel, splice] using this
          rw [this, valsOf_cons, h1]
          simpa [splice] using ih
      · cases h
    · cases h

theorem strsOf_spec : ∀ {l : List Cel} {x : List ByteArray}, strsOf l = some x → valsOf l = x.map .string ∧ l.length = x.length
  | [], x, h => by simp only [strsOf, Option.some.injEq] at h; subst h; exact ⟨rfl, rfl⟩
  | c :: r, x, h => by
    unfold strsOf at h
    split at h
    · rename_i heq; cases heq
    · rename_i y r' heq
      cases heq
      split at h
      · rename_i l' hl
        simp only [Option.some.injEq] at h
        subst h
        obtain ⟨h1, h2⟩ := strsOf_spec hl
        exact ⟨by rw [valsOf_cons, h1]; rfl, by simp [h2]⟩
      · cases h
    · cases h

theorem run_buildSlice {t : TypeId} {i : TI} (ht : TyOk P t i) {e : TypeId} (hd : i.und = .slice e) {ie : TI} (he : TyOk P e ie) (hsz : ie.size = 1) {m : Nat} (hm : m ≤ 1000) (ps : Array (Nat × Value)) (w : World) (l : List Value)
    (hl : l.length = m) (hf : ∀ cells : List Value, m ≤ cells.length → Instr.fill (fun i => some (i * 1, 1)) cells.toArray ps.toList = some (splice cells 0 l).toArray) :
    (Instr.buildSlice t m ps).run P w = .ok (.slice (some ⟨w.heap.size, 0, none⟩) m m) { w with heap := w.heap.push (.cells l.toArray e) } := by
  have hu := ht.und
  rw [hd] at hu
  have hz := run_zero he w
  unfold Instr.buildSlice
  have hle : ¬ (m > 2 ^ 24) := by omega
  have hfill : ∀ z : Array Value, Instr.fill (fun i => some (i, 1)) ((Array.range m).map (z[· % z.size]!)) ps.toList = some l.toArray := by
    intro z
    have := hf ((Array.range m).map (z[· % z.size]!)).toList (by simp)
    rw [Array.toArray_toList] at this
    simp only [Nat.mul_one] at this
    rw [this]
    congr 1
    rw [splice_eq _ _ _ (by simp [hl])]
    simp [hl]
  simp only [Sem.run_bind, run_underlying hu, Result.andThen_ok, run_size he, hsz, Nat.mul_one, if_neg hle]
  by_cases h0 : m = 0
  · simp only [if_pos h0, Sem.run_pure, Result.andThen_ok, hfill, Sem.run_bind, run_newRow]
  · simp only [if_neg h0, Sem.run_bind, hz, Result.andThen_ok, Sem.run_pure, hfill, run_newRow]

theorem and_eq {b b' : Blk} {p : C} (h : (C.and (some (b = b' ∧ b.ro = false)) p).holds) : b = b' ∧ b.ro = false ∧ p.holds := by
  obtain ⟨h1, h2⟩ := holds_and h
  exact ⟨h1.1, h1.2, h2⟩

set_option maxHeartbeats 1000000 in
theorem effOp_wp {cx : Cx} (hcx : CxOk P cx) {n : Nat} {s : Sl} {a : Act} (hs : SlOk n s a) {h : Hp} {o : Nat → Option Ow} {w : World} (hw : Own h o w) (O : Oper) {F : SV → Hp → Prop}
    (hr : (effOp cx s h O.dst O.op).fits h F) {K : Act → World → Prop} {Q : Exit → Act → World → Prop}
    (hk : ∀ v h' w' o', v.ok → F v h' → Own h' o' w' → Fr w o w' o' → K (a.put O.dst v.den) w') : O.wp P a w K Q := by
  have htab := hcx.tab
  generalize hd : O.dst = d at hr hk
  generalize hO : O.op = op at hr
  unfold effOp at hr
  split at hr
  · -- alloc
    rename_i t
    split at hr
    · rename_i ti ht
      split at hr
      · rename_i hn
        have hti := htab _ _ ht
        obtain ⟨o', h1, h2⟩ := hw.new hn t (okB_all hti.zok) hti.zcells
        refine exec_value hO (s := Instr.alloc t true (.tuple #[])) rfl rfl (v := .pointer (some ⟨w.heap.size, 0, none⟩)) (w' := { w with heap := w.heap.push (.cells ti.zeroV.cells t) }) ?_ ?_
        · unfold Instr.alloc
          simp only [Sem.run_bind, run_zero hti, Result.andThen_ok, newVar, run_newRow, Sem.run_pure]
        · rw [hd]; exact hk (.c (.ptr (fresh d) (newB w) 0)) _ _ _ trivial (hr.2 _ (newB_plain w)) h1 h2
      · cases hr
    · cases hr
  · -- box
    rename_i t x
    have go : ∀ (v : Value) (l : List Cel), a.eval x = v → v.cells = (valsOf l).toArray → (∀ c ∈ l, c.ok) → h.get (fresh d) = none → F (.c (.ptr (fresh d) (newB w) 0)) (h.put (fresh d) (newB w) (.cells t l)) → O.wp P a w K Q := by
      intro v l hv hc hok hn hF
      obtain ⟨o', h1, h2⟩ := hw.new hn t hok hc
      refine exec_value hO (s := Instr.box t (a.eval x)) rfl rfl (v := .pointer (some ⟨w.heap.size, 0, none⟩)) (w' := { w with heap := w.heap.push (.cells v.cells t) }) ?_ ?_
      · unfold Instr.box
        simp only [Sem.run_bind, newVar, run_newRow, Sem.run_pure, Result.andThen_ok, hv]
      · rw [hd]; exact hk (.c (.ptr (fresh d) (newB w) 0)) _ _ _ trivial hF h1 h2
    split at hr
    · rename_i y ht hx hn
      split at hr
      · rename_i hsing
        obtain ⟨h1, h2, h3⟩ := Cel.single_one hsing
        refine go _ [y] (hs.eval hx) ?_ (by simpa using h2) hn (hr.2 _ (newB_plain w))
        have := (cellsOf_den (v := .c y) (cs := [y]) (by simp [cellsOf, hsing]) trivial).1
        exact Array.ext' (by simpa using this)
      · cases hr
    · rename_i l ht hx hn
      exact go _ l (hs.eval hx) (by simp [SV.den, Value.cells]) (hs.ok hx) hn (hr.2 _ (newB_plain w))
    · cases hr
  · -- buildSlice
    rename_i t m parts
    split at hr
    · rename_i e _ _ _ ht hn hm
      have hti := htab _ _ ht
      have hm := ble_true hm
      have go : ∀ (ie : TI) (l : List Cel), TyOk P e ie → ie.size = 1 → (valsOf l).length = m → (∀ c ∈ l, c.ok) →
          (∀ cells : List Value, m ≤ cells.length → Instr.fill (fun i => some (i * 1, 1)) cells.toArray (parts.toList.map fun (i, x) => (i, a.eval x)) = some (splice cells 0 (valsOf l)).toArray) →
          F (.c (.sl (fresh d) (newB w) 0 m m 0)) (h.put (fresh d) (newB w) (.cells e l)) → O.wp P a w K Q := by
        intro ie l he hsz hl hok hf hF
        obtain ⟨o', h1, h2⟩ := hw.new hn e hok rfl
        have hrun := run_buildSlice hti rfl he hsz hm (parts.map fun (i, x) => (i, a.eval x)) w _ hl (fun cells hc => by rw [Array.toList_map]; exact hf cells hc)
        have hex : (execOp a.eval O).run P w = .ok (.value (.slice (some ⟨w.heap.size, 0, none⟩) m m)) { w with heap := w.heap.push (.cells (valsOf l).toArray e) } := by
          cases O; dsimp only at hO; subst hO
          simp only [execOp, Sem.run_bind, hrun, Result.andThen_ok, Sem.run_pure]
        unfold Oper.wp
        rw [hex]
        simp only [Oper.upon]
        rw [hd]; exact hk (.c (.sl (fresh d) (newB w) 0 m m 0)) _ _ _ trivial hF h1 h2
      split at hr
      · rename_i k _ _ he
        split at hr
        · rename_i l hl
          split at hr
          · rename_i hlen
            have hlen := beq_true hlen
            refine go _ [.ints k m l] (htab _ _ he) rfl (by simp [Cel.vals, hlen]) (fun c hc => by simp only [List.mem_singleton] at hc; subst hc; exact hlen) (fun cells hc => ?_) (hr.2 _ (newB_plain w))
            have := fill_ints hs k parts.toList 0 l hl cells (by omega)
            simpa [Cel.vals] using this
          · cases hr
        · cases hr
      · rename_i he
        split at hr
        · rename_i l hl
          split at hr
          · rename_i x hx
            obtain ⟨x1, x2⟩ := strsOf_spec hx
            split at hr
            · rename_i hlen
              have hlen := beq_true hlen
              obtain ⟨g1, g2, g3⟩ := litCells_spec hs parts.toList 0 l hl
              refine go _ [.strs m x] (htab _ _ he) rfl (by simp [Cel.vals, hlen]) (fun c hc => by simp only [List.mem_singleton] at hc; subst hc; exact hlen) (fun cells hc => ?_) (hr.2 _ (newB_plain w))
              have := g3 cells (by omega)
              rw [x1] at this
              simpa [Cel.vals] using this
            · cases hr
          · cases hr
        · cases hr
      · rename_i _ _ he
        split at hr
        · rename_i l hl
          split at hr
          · rename_i hlen
            have hlen := beq_true hlen
            obtain ⟨g1, g2, g3⟩ := litCells_spec hs parts.toList 0 l hl
            exact go _ l (htab _ _ he) rfl (by omega) g1 (fun cells hc => g3 cells (by omega)) (hr.2 _ (newB_plain w))
          · cases hr
        · cases hr
      · cases hr
    · cases hr
  · -- store
    rename_i t x y
    split at hr
    · rename_i und _ _ tg b off y' ht hx hy
      split at hr
      · rename_i b' ty l hg
        split at hr
        · rename_i q l' hwr
          obtain ⟨hb, hro, hq⟩ := and_eq hr.1
          subst hb
          have hok := hw.oks hg
          obtain ⟨w1, w2, w3, w4⟩ := wr1_spec y' l off q l' hwr hq hok
          obtain ⟨s1, s2, s3⟩ := Cel.single_one w4
          have hcel := (cellsOf_den (v := .c y') (cs := [y']) (by simp [cellsOf, w4]) trivial).1
          have hcel : (SV.c y').den.cells.toList = [y'.one] := by rw [hcel]; simp [valsOf]; exact s1
          have hst := run_store hw hg (htab _ _ ht) (off := off) hcel rfl (by simpa using s3) (by simp; omega)
          obtain ⟨g1, g2⟩ := hw.store hg hro (off := off) (vs := [y'.one]) (l' := l') (by simp; omega) (by rw [w2]; rfl) w3
          unfold Oper.wp
          have : (execOp a.eval O).run P w = .ok .skip (w.setCells b.n (b.lo + off) [y'.one]) := by
            cases O; dsimp only at hO; subst hO
            simp only [execOp, hs.eval hx, hs.eval hy, Sem.run_bind]
            rw [show (SV.c (.ptr tg b off)).den = .pointer (some (b.at off)) from rfl, hst]
            rfl
          rw [this]
          simp only [Oper.upon]
          rw [hd]
          exact hk .nothing _ _ _ trivial hr.2 g1 g2
        · cases hr
      · cases hr
    · rename_i und z _ _ tg b off y' ht hx hy
      split at hr
      · rename_i b' ty l hg hlen
        split at hr
        · rename_i q l' hwr
          obtain ⟨hb, hro, hq⟩ := and_eq hr.1
          subst hb
          have hok := hw.oks hg
          have hlen := beq_true hlen
          have hyok : ∀ c ∈ y', c.ok := hs.ok hy
          obtain ⟨w1, w2, w3⟩ := wrN_spec y' l off q l' hwr hq hok hyok
          have hcel : (SV.agg y').den.cells.toList = valsOf y' := by simp [SV.den, Value.cells]
          by_cases he : y' = []
          · subst he; simp [lenOf] at hlen
          · have w1 := w1.resolve_left he
            have hst := run_store hw hg (htab _ _ ht) (off := off) hcel (by rw [vals_length hyok]; exact hlen) (valsOf_one hyok) w1
            obtain ⟨g1, g2⟩ := hw.store hg hro (off := off) (vs := valsOf y') (l' := l') w1 w2 w3
            unfold Oper.wp
            have : (execOp a.eval O).run P w = .ok .skip (w.setCells b.n (b.lo + off) (valsOf y')) := by
              cases O; dsimp only at hO; subst hO
              simp only [execOp, hs.eval hx, hs.eval hy, Sem.run_bind]
              rw [show (SV.c (.ptr tg b off)).den = .pointer (some (b.at off)) from rfl, hst]
              rfl
            rw [this]
            simp only [Oper.upon]
            rw [hd]
            exact hk .nothing _ _ _ trivial hr.2 g1 g2
        · cases hr
      · cases hr
    · cases hr
  · -- call
    rename_i f args ats
    split at hr
    · rename_i c vs hc hv
      have hcon := hcx.con _ _ hc
      obtain ⟨fn, hfn, hname, hbody⟩ := hcon.func
      have hvok : ∀ v ∈ vs, v.ok := hs.oks hv
      have hcall := hcon.calls (fresh d) vs h F hr hvok w o hw
      have hargs : args.map a.eval = (vs.map SV.den).toArray := by
        apply Array.ext'; rw [Array.toList_map, hs.evals hv]
      unfold Oper.wp
      have : (execOp a.eval O).run P w = .ok (.enter f (vs.map SV.den).toArray) w := by
        cases O; dsimp only at hO; subst hO
        have hnb : fn.body.isNone = false := by cases hb : fn.body <;> simp_all
        have hcf : (callFunc f (vs.map SV.den).toArray).run P w = .ok (.enter f (vs.map SV.den).toArray) w := by
          unfold callFunc
          simp only [Sem.run_bind, run_program, Result.andThen_ok, hfn, hname, hnb, Bool.false_eq_true, if_false, Sem.run_pure]
        simp only [execOp, resolve, Sem.run_bind, Sem.run_pure, Result.andThen_ok, hargs, Act.eval, Deferred.ofValue, invoke, Array.empty_append, Array.append_empty]
        simpa using hcf
      rw [this]
      simp only [Oper.upon]
      refine hcall.mono fun e w' ⟨v, h', o', he, hvo, hF, g1, g2⟩ => ?_
      subst he
      simp only
      rw [hd]
      exact hk v h' w' o' hvo hF g1 g2
    · cases hr
  · -- a call of a function's value
    rename_i x args ats
    split at hr
    · rename_i f l vs hx hv
      split at hr
      · rename_i c hc
        have hcon := hcx.con _ _ hc
        obtain ⟨fn, hfn, hname, hbody⟩ := hcon.func
        have hvok : ∀ v ∈ vs ++ l.map (fun y => SV.c (.ptr y.1 y.2.1 y.2.2)), v.ok := by
          intro v hm
          rcases List.mem_append.1 hm with h1 | h1
          · exact hs.oks hv v h1
          · obtain ⟨y, _, rfl⟩ := List.mem_map.1 h1
            trivial
        have hcall := hcon.calls (fresh d) _ h F hr hvok w o hw
        have hargs : args.map a.eval = (vs.map SV.den).toArray := by
          apply Array.ext'; rw [Array.toList_map, hs.evals hv]
        have hxe : a.eval (.tmp x) = .func (.func f) #[] (l.map fun x => Value.pointer (some (x.2.1.at x.2.2))).toArray := hs.eval (v := .c (.fn f l)) hx
        have hall : (vs ++ l.map (fun y => SV.c (.ptr y.1 y.2.1 y.2.2))).map SV.den = vs.map SV.den ++ l.map fun x => Value.pointer (some (x.2.1.at x.2.2)) := by
          rw [List.map_append, List.map_map]
          rfl
        rw [hall] at hcall
        unfold Oper.wp
        have : (execOp a.eval O).run P w = .ok (.enter f (vs.map SV.den ++ l.map fun x => Value.pointer (some (x.2.1.at x.2.2))).toArray) w := by
          cases O; dsimp only at hO; subst hO
          have hnb : fn.body.isNone = false := by cases hb : fn.body <;> simp_all
          have hcf : (callFunc f (vs.map SV.den ++ l.map fun x => Value.pointer (some (x.2.1.at x.2.2))).toArray).run P w = .ok (.enter f (vs.map SV.den ++ l.map fun x => Value.pointer (some (x.2.1.at x.2.2))).toArray) w := by
            unfold callFunc
            simp only [Sem.run_bind, run_program, Result.andThen_ok, hfn, hname, hnb, Bool.false_eq_true, if_false, Sem.run_pure]
          simp only [execOp, resolve, Sem.run_bind, Sem.run_pure, Result.andThen_ok, hargs, hxe, Deferred.ofValue, invoke, Array.empty_append]
          simpa using hcf
        rw [this]
        simp only [Oper.upon]
        refine hcall.mono fun e w' ⟨v, h', o', he, hvo, hF, g1, g2⟩ => ?_
        subst he
        simp only
        rw [hd]
        exact hk v h' w' o' hvo hF g1 g2
      · cases hr
    · cases hr
  · -- makeSlice
    rename_i t l c
    unfold makeOp at hr
    split at hr
    · rename_i e _ _ _ kl l' kc c' ht hl hc hn
      split at hr
      · rename_i k by' k' he
        split at hr
        · rename_i hkk
          cases kindEq_true hkk
          obtain ⟨h0, h1, h2, h3⟩ := hr.1
          have hrun := run_make (P := P) (htab _ _ ht) rfl (htab _ _ he) (kl := kl) (kc := kc) rfl rfl h0 h1 h2 h3 w
          obtain ⟨o', g1, g2⟩ := hw.new hn e (l := [.ints k c'.toNat (List.replicate c'.toNat 0)]) (by simp [Cel.ok]) rfl
          refine exec_value hO (s := Instr.makeSlice t (a.eval l) (a.eval c)) rfl rfl (v := .slice (baseOf (newB w) 0 0) l'.toNat c'.toNat) (by
            rw [hs.eval hl, hs.eval hc]; exact hrun) ?_
          rw [hd]; exact hk (.c (.sl (fresh d) (newB w) 0 l'.toNat c'.toNat 0)) _ _ _ trivial (hr.2 _ (newB_plain w)) g1 g2
        · cases hr
      · cases hr
    · cases hr
  · -- convert
    rename_i sr t x
    split at hr
    · rename_i _ _ _ e _ _ _ y hsr ht hx hn
      split at hr
      · rename_i he
        obtain ⟨r, w', o', g1, g2, g3, g4⟩ := run_toBytes (P := P) (htab _ _ hsr) rfl (htab _ _ ht) rfl (htab _ _ he) rfl y hw hn
        refine exec_value hO (s := Go.convert sr t (a.eval x)) rfl rfl (v := .slice (baseOf r.b r.off r.z) y.size r.cap) (w' := w') (by rw [hs.eval hx]; exact g1) ?_
        rw [hd]; exact hk (.c (.sl (fresh d) r.b r.off y.size r.cap r.z)) _ _ _ trivial (hr.2 r g2) g3 g4
      · cases hr
    · rename_i e _ _ _ _ _ _ _ tg b off n c z hsr ht hx
      split at hr
      · rename_i b' yy k m L he hg hst
        have hst := beq_true hst
        subst hst
        obtain ⟨⟨hb, hz, hro, hbp⟩, hF⟩ := hr
        subst hb hz
        obtain ⟨w', g1, g2, g3⟩ := run_sameBytes (P := P) (htab _ _ hsr) rfl (htab _ _ he) rfl hw hg hro hbp off n c
        refine exec_value hO (s := Go.convert sr sr (a.eval x)) rfl rfl (v := .slice (some (((b.o.marked (m + 1) : BlkO) : Blk).at off)) n c) (w' := w') (by rw [hs.eval hx]; exact g1) ?_
        rw [hd]; exact hk (.c (.sl tg (b.o.marked (m + 1)) off n c 0)) _ _ _ trivial hF g2 g3
      · cases hr
    · cases hr
  · -- append, copy
    rename_i b args ats
    have gen : ∀ (s : TypeId → Sem Value) (z : Value) (w' : World), (∀ type consts, builtin b ats type consts (args.map a.eval) = (do pure (.value (← s type)))) → (∀ type, (s type).run P w = .ok z w') →
        (execOp a.eval O).run P w = .ok (.value z) w' := by
      intro s z w' he hz
      cases O; dsimp only at hO; subst hO
      simp only [execOp, resolve, Sem.run_bind, Sem.run_pure, Result.andThen_ok, invoke, he, hz]
    split at hr
    · rename_i x y t t2 hargs hats
      have hargs : args = #[x, y] := by apply Array.ext'; simpa using hargs
      have hats : ats = #[t, t2] := by apply Array.ext'; simpa using hats
      subst hargs hats
      unfold appendOp at hr
      split at hr
      · rename_i e _ _ _ u2 _ _ _ X Y ht ht2 hx hy
        split at hr
        · rename_i k by' k' zs he hn hzs
          split at hr
          · rename_i p n c olds h' q m news hkk hby hb hsrc
            cases kindEq_true hkk
            obtain ⟨hpq, hroom⟩ := holds_and hr.1
            obtain ⟨hp, hq⟩ := holds_and hpq
            have hrun := fun type => run_append (P := P) hw (htab _ _ ht) rfl (htab _ _ he) rfl rfl rfl (htab _ _ ht2) (ty := type) hb hp hzs hsrc hq (ble_true hby) hroom hn
            obtain ⟨r, w', o', g1, g2, g3, g4⟩ := hrun O.type
            unfold Oper.wp
            have hex : (execOp a.eval O).run P w = .ok (.value (.slice (baseOf r.b r.off r.z) (n + m) r.cap)) w' := by
              cases O; dsimp only at hO; subst hO
              simp only [execOp, resolve, Sem.run_bind, Sem.run_pure, Result.andThen_ok, invoke, builtin, List.map_toArray, List.map_cons, List.map_nil, hs.eval hx, hs.eval hy]
              rw [g1]; rfl
            rw [hex]
            simp only [Oper.upon]
            rw [hd]
            exact hk (.c (.sl (fresh d) r.b r.off (n + m) r.cap r.z)) _ _ _ trivial (hr.2 r g2) g3 g4
          · cases hr
        · cases hr
      · cases hr
    · rename_i x y t t2 hargs hats
      have hargs : args = #[x, y] := by apply Array.ext'; simpa using hargs
      have hats : ats = #[t, t2] := by apply Array.ext'; simpa using hats
      subst hargs hats
      unfold copyOp at hr
      split at hr
      · rename_i e _ _ _ tg b' off n c z Y ht hx hy
        split at hr
        · rename_i k _ _ b'' ty k' m L he hg
          split at hr
          · rename_i q ny news hkk hsrc
            cases kindEq_true hkk
            obtain ⟨hp, hq⟩ := holds_and hr.1
            obtain ⟨hb, hro, hle, hz⟩ := hp
            subst hb
            obtain ⟨w', g1, g2, g3⟩ := run_copy (P := P) hw (t2 := t2) (ty := O.type) (c := c) (htab _ _ ht) rfl (htab _ _ he) rfl hg hro hle hz hsrc hq
            unfold Oper.wp
            have hex : (execOp a.eval O).run P w = .ok (.value (.int .i64 (min ny n : Nat))) w' := by
              cases O; dsimp only at hO; subst hO
              simp only [execOp, resolve, Sem.run_bind, Sem.run_pure, Result.andThen_ok, invoke, builtin, List.map_toArray, List.map_cons, List.map_nil, hs.eval hx, hs.eval hy]
              have : (SV.c (.sl tg b' off n c z)).den = .slice (baseOf b' off z) n c := rfl
              rw [this, g1]; rfl
            rw [hex]
            simp only [Oper.upon]
            rw [hd]
            exact hk (.int .i64 (min ny n : Nat)) _ _ _ trivial hr.2 g2 g3
          · cases hr
        · cases hr
      · cases hr
    · cases hr
  · cases hr

end Ab
end Go
