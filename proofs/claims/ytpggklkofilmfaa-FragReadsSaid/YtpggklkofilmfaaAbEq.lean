/- Two arrays of numbers held against one another. -/
import Derived.Test.YtpggklkofilmfaaAbBin
import Derived.Laws.StructEq
set_option linter.unusedSimpArgs false
set_option linter.unusedVariables false
namespace Go
namespace Ab
variable {P : Program}

theorem allEq : ∀ (xs ys : List Int), xs.length = ys.length → ((List.range xs.length).all fun i => xs.getD i 0 == ys.getD i 0) = decide (xs = ys)
  | [], [], _ => rfl
  | x :: xs, y :: ys, h => by
    have ih := allEq xs ys (by simpa using h)
    rw [List.length_cons, List.range_succ_eq_map, List.all_cons, List.all_map]
    simp only [List.getD_cons_zero, Function.comp_def, List.getD_cons_succ, ih]
    by_cases e : x = y <;> simp [e]
  | [], _ :: _, h => by simp at h
  | _ :: _, [], h => by simp at h

theorem run_equalIn_ints (w : World) (d : Nat) (t e : TypeId) (n : Nat) (k k' : IntKind) (ht : P.underlying t = some (.array n e)) (he : P.underlying e = some (.int k')) (hsz : ∀ w, (sizeOf e).run P w = .ok 1 w)
    (xs ys : List Int) (hx : xs.length = n) (hy : ys.length = n) :
    (Op.equalIn (d + 2) t (.agg (xs.map (.int k)).toArray) (.agg (ys.map (.int k)).toArray)).run P w = .ok (decide (xs = ys)) w := by
  rw [← allEq xs ys (hx.trans hy.symm), hx, List.range_eq_range', Op.equalIn]
  simp only [Sem.run_bind, run_underlying ht, Result.andThen_ok, hsz, Std.Legacy.Range.forIn_eq_forIn_range', Std.Legacy.Range.size, Nat.sub_zero, Nat.add_sub_cancel, Nat.div_one]
  have hl : ∀ i ∈ List.range' 0 n 1, i < n := fun i hi => by simpa using (List.mem_range'_1.1 hi).2
  generalize List.range' 0 n 1 = l at hl ⊢
  induction l with
  | nil => simp
  | cons i l ih =>
    have hi : i < n := hl i (by simp)
    have px : (part e (xs.map (Value.int k)).toArray (i * 1)).run P w = .ok (.int k (xs.getD i 0)) w := by
      simp [part, isAgg, run_underlying he, List.getD, List.getElem?_eq_getElem (show i < xs.length by omega)]
    have py : (part e (ys.map (Value.int k)).toArray (i * 1)).run P w = .ok (.int k (ys.getD i 0)) w := by
      simp [part, isAgg, run_underlying he, List.getD, List.getElem?_eq_getElem (show i < ys.length by omega)]
    have pe : (Op.equalIn (d + 1) e (.int k (xs.getD i 0)) (.int k (ys.getD i 0))).run P w = .ok (xs.getD i 0 == ys.getD i 0) w :=
      run_equalIn_int w d e k k' _ _ he
    simp only [List.forIn_cons, Sem.run_bind, px, py, pe, Result.andThen_ok, List.all_cons]
    cases hb : (xs.getD i 0 == ys.getD i 0)
    · simp
    · simp only [Bool.not_true, Bool.false_eq_true, if_false, Sem.run_pure, Result.andThen_ok, Bool.true_and]
      exact ih fun j hj => hl j (by simp [hj])

theorem noGuard {t e : TypeId} {n : Nat} {k : IntKind} (ht : P.underlying t = some (.array n e)) (he : P.underlying e = some (.int k)) : P.eqGuardType P.depth t = false := by
  have : P.depth = (P.depth - 2) + 1 + 1 := by unfold Program.depth; omega
  rw [this, Program.eqGuardType, ht]
  simp only
  rw [Program.eqGuardType, he]

theorem run_part_cell {e : TypeId} {d : TypeDesc} (he : P.underlying e = some d) (hd : isRow d = false) (cs : Array Value) (o : Nat) (v : Value) (hv : cs[o]? = some v) (w : World) : (part e cs o).run P w = .ok v w := by
  have : (isAgg e).run P w = .ok false w := by
    simp only [isAgg, Sem.run_bind, run_underlying he, Result.andThen_ok]
    cases d <;> first | rfl | simp [isRow] at hd
  simp [part, this, hv]
theorem run_part_row {e e' : TypeId} {n z : Nat} (he : P.underlying e = some (.array n e')) (hsz : ∀ w, (sizeOf e).run P w = .ok z w) (cs : Array Value) (o : Nat) (w : World) : (part e cs o).run P w = .ok (.agg (cs.extract o (o + z))) w := by
  have : (isAgg e).run P w = .ok true w := by
    simp only [isAgg, Sem.run_bind, run_underlying he, Result.andThen_ok]
    rfl
  simp [part, this, hsz]
theorem eqCel_run {tab : Tab} (htab : TabOk P tab) (w : World) (d : Nat) {t : TypeId} {x y : Cel} {m : Nat} {e : Bool} (h : eqCel tab t x y = some (m, e)) (hx : x.ok) (hy : y.ok) {X Y X' Y' : List Value} {o : Nat}
    (hX : X.drop o = x.vals ++ X') (hY : Y.drop o = y.vals ++ Y') :
    x.vals.length = m ∧ y.vals.length = m ∧ ∃ a b, (part t X.toArray o).run P w = .ok a w ∧ (part t Y.toArray o).run P w = .ok b w ∧ (Op.equalIn (d + 2) t a b).run P w = .ok e w := by
  have at0 : ∀ {Z : List Value} {z : Value} {l : List Value}, Z.drop o = z :: l → Z.toArray[o]? = some z := by
    intro Z z l h
    have : (Z.drop o)[0]? = some z := by rw [h]; rfl
    rw [List.getElem?_drop] at this
    simpa using this
  have row : ∀ {k : Nat} {Z zs : List Value} {l : List Value}, Z.drop o = zs ++ l → zs.length = k → Z.toArray.extract o (o + k) = zs.toArray := by
    intro k Z zs l h hk
    apply Array.ext'
    simp only [Array.toList_extract, List.extract_eq_take_drop, Nat.add_sub_cancel_left, h]
    rw [← hk, List.take_left]
  unfold eqCel at h
  split at h
  · rename_i k a k' b
    split at h
    · rename_i hk htt
      cases kindEq_true hk
      simp only [Option.some.injEq, Prod.mk.injEq] at h
      obtain ⟨rfl, rfl⟩ := h
      have ht := (htab _ _ htt).und
      exact ⟨rfl, rfl, _, _, run_part_cell ht rfl _ _ _ (at0 hX) w, run_part_cell ht rfl _ _ _ (at0 hY) w, by rw [run_equalIn_int w _ _ _ _ _ _ ht]; rfl⟩
    · cases h
  · rename_i a b
    split at h
    · rename_i htt
      simp only [Option.some.injEq, Prod.mk.injEq] at h
      obtain ⟨rfl, rfl⟩ := h
      have ht := (htab _ _ htt).und
      exact ⟨rfl, rfl, _, _, run_part_cell ht rfl _ _ _ (at0 hX) w, run_part_cell ht rfl _ _ _ (at0 hY) w, by rw [run_equalIn_bool' w _ _ _ _ ht]⟩
    · cases h
  · rename_i k m1 a k' m2 b
    split at h
    · rename_i n e' z _ _ hk htt
      cases kindEq_true hk
      split at h
      · rename_i k2 _ _ hee hb
        simp only [Option.some.injEq, Prod.mk.injEq] at h
        obtain ⟨rfl, rfl⟩ := h
        simp only [Bool.and_eq_true] at hb
        obtain ⟨⟨h1, h2⟩, h3⟩ := hb
        have h1 := beq_true h1
        have h2 := beq_true h2
        have h3 := beq_true h3
        subst h1 h2 h3
        have ht := (htab _ _ htt).und
        have he := (htab _ _ hee).und
        have hx : a.length = z := hx
        have hy : b.length = z := hy
        have lx : (Cel.ints k z a).vals.length = z := by simp [Cel.vals, hx]
        have ly : (Cel.ints k z b).vals.length = z := by simp [Cel.vals, hy]
        refine ⟨lx, ly, _, _, run_part_row ht (fun w => run_size (htab _ _ htt) w) _ _ w, run_part_row ht (fun w => run_size (htab _ _ htt) w) _ _ w, ?_⟩
        rw [row hX lx, row hY ly]
        exact run_equalIn_ints w d t e' z k k2 ht he (fun w => run_size (htab _ _ hee) w) a b hx hy
      · cases h
    · cases h
  · cases h
theorem eqCels_run {tab : Tab} (htab : TabOk P tab) (w : World) (d : Nat) : ∀ (fs : List Field) (o : Nat) (xs ys : List Cel) (r : Bool) (X Y : List Value), eqCels tab fs o xs ys = some r → (∀ c ∈ xs, c.ok) → (∀ c ∈ ys, c.ok) →
    X.drop o = valsOf xs → Y.drop o = valsOf ys → (∀ f ∈ fs, f.name ≠ "_") → (Op.eqFields (d + 2) X.toArray Y.toArray fs).run P w = .ok r w
  | [], o, [], [], r, X, Y, h, _, _, _, _, _ => by
    simp only [eqCels, Option.some.injEq] at h
    subst h
    simp [Op.eqFields]
  | f :: fs, o, x :: xs, y :: ys, r, X, Y, h, hx, hy, hX, hY, hn => by
    have hf : f.name ≠ "_" := hn f (by simp)
    simp only [eqCels] at h
    split at h
    · rename_i m e h1 h2
      split at h
      · rename_i r' hr
        simp only [Option.some.injEq] at h
        subst h
        rw [valsOf_cons] at hX hY
        obtain ⟨lx, ly, a, b, pa, pb, pe⟩ := eqCel_run (P := P) htab w d h2 (hx x (by simp)) (hy y (by simp)) hX hY
        have ih := eqCels_run htab w d fs (o + m) xs ys r' X Y hr (fun c hc => hx c (by simp [hc])) (fun c hc => hy c (by simp [hc]))
          (by rw [← List.drop_drop, hX, ← lx, List.drop_left]) (by rw [← List.drop_drop, hY, ← ly, List.drop_left]) (fun g hg => hn g (by simp [hg]))
        simp only [Op.eqFields, hf, ne_eq, not_false_eq_true, if_true, Sem.run_bind, beq_true h1, pa, pb, pe, Result.andThen_ok]
        cases e
        · simp
        · simpa using ih
      · cases h
    · cases h
  | [], _, _ :: _, _, _, _, _, h, _, _, _, _, _ => by simp [eqCels] at h
  | [], _, [], _ :: _, _, _, _, h, _, _, _, _, _ => by simp [eqCels] at h
  | _ :: _, _, [], _, _, _, _, h, _, _, _, _, _ => by simp [eqCels] at h
  | _ :: _, _, _ :: _, [], _, _, _, h, _, _, _, _, _ => by simp [eqCels] at h
/-- No type of the table that holds plain cells alone asks to be guarded. -/
theorem plain_noGuard {tab : Tab} (htab : TabOk P tab) {fs : List Field} : ∀ {o : Nat} {xs ys : List Cel} {r : Bool}, eqCels tab fs o xs ys = some r → ∀ f ∈ fs, ∀ d, P.eqGuardType (d + 2) f.type = false := by
  induction fs with
  | nil => intro o xs ys r _ f hf; simp at hf
  | cons g fs ih =>
    intro o xs ys r h f hf d
    cases xs with
    | nil => simp [eqCels] at h
    | cons x xs =>
    cases ys with
    | nil => simp [eqCels] at h
    | cons y ys =>
    simp only [eqCels] at h
    split at h
    · rename_i m e h1 h2
      split at h
      · rename_i r' hr
        simp only [List.mem_cons] at hf
        rcases hf with rfl | hf
        · unfold eqCel at h2
          split at h2
          · split at h2
            · rename_i htt
              rw [Program.eqGuardType, (htab _ _ htt).und]
            · cases h2
          · split at h2
            · rename_i htt
              rw [Program.eqGuardType, (htab _ _ htt).und]
            · cases h2
          · split at h2
            · rename_i htt
              split at h2
              · rename_i hee _
                rw [Program.eqGuardType, (htab _ _ htt).und]
                simp only
                rw [Program.eqGuardType, (htab _ _ hee).und]
              · cases h2
            · cases h2
          · cases h2
        · exact ih hr f hf d
      · cases h
    · cases h
theorem binAgg_run {tab : Tab} (htab : TabOk P tab) {op : BinOp} {t : TypeId} {x y : List Cel} {p : C} {v : SV} (h : binAgg tab op t (.agg x) (.agg y) = some (p, v))
    (hx : ∀ c ∈ x, c.ok) (hy : ∀ c ∈ y, c.ok) (a b : Operand) (w : World) :
    ((do eqGuard op t a b (SV.agg x).den (SV.agg y).den; binOp op t (SV.agg x).den (SV.agg y).den) : Sem Value).run P w = .ok v.den w := by
  unfold binAgg at h
  split at h
  · rename_i n e _ _ _ k n1 l1 k' n2 l2 htt hxx hyy
    have ht := (htab _ _ htt).und
    simp only [SV.agg.injEq] at hxx hyy
    subst hxx hyy
    split at h
    · rename_i k2 _ _ hee
      have he := (htab _ _ hee).und
      have hsz := fun w => run_size (htab _ _ hee) w
      split at h
      · rename_i hb
        simp only [Bool.and_eq_true] at hb
        obtain ⟨⟨h1, h2⟩, h3⟩ := hb
        have h1 := beq_true h1
        have h2 := beq_true h2
        cases kindEq_true h3
        have hl1 : l1.length = n := by have : l1.length = n1 := hx _ (List.mem_singleton.2 rfl); omega
        have hl2 : l2.length = n := by have : l2.length = n2 := hy _ (List.mem_singleton.2 rfl); omega
        have hd1 : (SV.agg [.ints k n1 l1]).den = .agg (l1.map (.int k)).toArray := by simp [SV.den, Cel.vals]
        have hd2 : (SV.agg [.ints k n2 l2]).den = .agg (l2.map (.int k)).toArray := by simp [SV.den, Cel.vals]
        rw [hd1, hd2, Sem.run_bind, run_eqGuard_agg w op t a b _ _ (noGuard ht he)]
        simp only [Result.andThen_ok]
        split at h
        · simp only [Option.some.injEq, Prod.mk.injEq] at h
          obtain ⟨rfl, rfl⟩ := h
          rw [run_eql_struct, run_equalIn_ints w 9998 t e n k k2 ht he hsz l1 l2 hl1 hl2]
          rfl
        · simp only [Option.some.injEq, Prod.mk.injEq] at h
          obtain ⟨rfl, rfl⟩ := h
          rw [run_neq_struct, run_equalIn_ints w 9998 t e n k k2 ht he hsz l1 l2 hl1 hl2]
          rfl
        · cases h
      · cases h
    · cases h
  · rename_i fs _ _ z xs ys htt hxx hyy
    have htt' := htab _ _ htt
    have ht := htt'.und
    simp only [SV.agg.injEq] at hxx hyy
    subst hxx hyy
    split at h
    · rename_i r hz hr
      have hfs : P.fieldsOf t = fs := by simp [Program.fieldsOf, ht]
      have hh := htt'.held
      simp only [heldOk, hz, Bool.not_true, Bool.false_or, Bool.and_eq_true, Bool.not_eq_true', List.all_eq_true] at hh
      obtain ⟨hheld, hnames⟩ := hh
      have hg : P.eqGuardType P.depth t = false := by
        have : P.depth = (P.depth - 3) + 2 + 1 := by unfold Program.depth Made.depth; omega
        rw [this, Program.eqGuardType, ht]
        simp only
        rw [Array.any_eq_false]
        intro i hi
        have := plain_noGuard htab hr fs[i] (by simp) (P.depth - 3)
        simp [this]
      have heq : (Op.equalIn 10000 t (SV.agg x).den (SV.agg y).den).run P w = .ok r w := by
        refine (run_equalIn_struct w 9999 t _ _ (by rw [hfs]; exact ht) hheld).trans ?_
        rw [hfs]
        exact eqCels_run htab w 9997 fs.toList 0 x y r (valsOf x) (valsOf y) hr hx hy rfl rfl (fun f hf => by simpa using hnames f hf)
      rw [show (SV.agg x).den = .agg (valsOf x).toArray from rfl, show (SV.agg y).den = .agg (valsOf y).toArray from rfl] at *
      rw [Sem.run_bind, run_eqGuard_agg w op t a b _ _ hg]
      simp only [Result.andThen_ok]
      split at h
      · simp only [Option.some.injEq, Prod.mk.injEq] at h
        obtain ⟨rfl, rfl⟩ := h
        rw [run_eql_struct, heq]
        rfl
      · simp only [Option.some.injEq, Prod.mk.injEq] at h
        obtain ⟨rfl, rfl⟩ := h
        rw [run_neq_struct, heq]
        rfl
      · cases h
    · cases h
  · cases h

end Ab
end Go
