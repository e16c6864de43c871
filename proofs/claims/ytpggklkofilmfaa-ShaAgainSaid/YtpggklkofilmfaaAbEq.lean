/- Two arrays of numbers held against one another. -/
import Derived.Test.YtpggklkofilmfaaAbBin
import Derived.Laws.StructEq
set_option linter.unusedSimpArgs false
set_option linter.unusedVariables false
namespace Go
namespace Ab
variable {P : Program}

theorem allEq : ∀ (xs ys : List Int), xs.length = ys.length → ((List.range xs.length).all fun i => xs.getD i 0 == ys.getD i 0) = decide (xs = ys)
  | [], [], _ => rfl
  | x :: xs, y :: ys, h => by
    have ih := allEq xs ys (by simpa using h)
    rw [List.length_cons, List.range_succ_eq_map, List.all_cons, List.all_map]
    simp only [List.getD_cons_zero, Function.comp_def, List.getD_cons_succ, ih]
    by_cases e : x = y <;> simp [e]
  | [], _ :: _, h => by simp at h
  | _ :: _, [], h => by simp at h

theorem run_equalIn_ints (w : World) (d : Nat) (t e : TypeId) (n : Nat) (k k' : IntKind) (ht : P.underlying t = some (.array n e)) (he : P.underlying e = some (.int k')) (hsz : ∀ w, (sizeOf e).run P w = .ok 1 w)
    (xs ys : List Int) (hx : xs.length = n) (hy : ys.length = n) :
    (Op.equalIn (d + 2) t (.agg (xs.map (.int k)).toArray) (.agg (ys.map (.int k)).toArray)).run P w = .ok (decide (xs = ys)) w := by
  rw [← allEq xs ys (hx.trans hy.symm), hx, List.range_eq_range', Op.equalIn]
  simp only [Sem.run_bind, run_underlying ht, Result.andThen_ok, hsz, Std.Legacy.Range.forIn_eq_forIn_range', Std.Legacy.Range.size, Nat.sub_zero, Nat.add_sub_cancel, Nat.div_one]
  have hl : ∀ i ∈ List.range' 0 n 1, i < n := fun i hi => by simpa using (List.mem_range'_1.1 hi).2
  generalize List.range' 0 n 1 = l at hl ⊢
  induction l with
  | nil => simp
  | cons i l ih =>
    have hi : i < n := hl i (by simp)
    have px : (part e (xs.map (Value.int k)).toArray (i * 1)).run P w = .ok (.int k (xs.getD i 0)) w := by
      simp [part, isAgg, run_underlying he, List.getD, List.getElem?_eq_getElem (show i < xs.length by omega)]
    have py : (part e (ys.map (Value.int k)).toArray (i * 1)).run P w = .ok (.int k (ys.getD i 0)) w := by
      simp [part, isAgg, run_underlying he, List.getD, List.getElem?_eq_getElem (show i < ys.length by omega)]
    have pe : (Op.equalIn (d + 1) e (.int k (xs.getD i 0)) (.int k (ys.getD i 0))).run P w = .ok (xs.getD i 0 == ys.getD i 0) w :=
      run_equalIn_int w d e k k' _ _ he
    simp only [List.forIn_cons, Sem.run_bind, px, py, pe, Result.andThen_ok, List.all_cons]
    cases hb : (xs.getD i 0 == ys.getD i 0)
    · simp
    · simp only [Bool.not_true, Bool.false_eq_true, if_false, Sem.run_pure, Result.andThen_ok, Bool.true_and]
      exact ih fun j hj => hl j (by simp [hj])

theorem noGuard {t e : TypeId} {n : Nat} {k : IntKind} (ht : P.underlying t = some (.array n e)) (he : P.underlying e = some (.int k)) : P.eqGuardType P.depth t = false := by
  have : P.depth = (P.depth - 2) + 1 + 1 := by unfold Program.depth; omega
  rw [this, Program.eqGuardType, ht]
  simp only
  rw [Program.eqGuardType, he]

theorem binAgg_run {tab : Tab} (htab : TabOk P tab) {op : BinOp} {t : TypeId} {x y : List Cel} {p : C} {v : SV} (h : binAgg tab op t (.agg x) (.agg y) = some (p, v))
    (hx : ∀ c ∈ x, c.ok) (hy : ∀ c ∈ y, c.ok) (a b : Operand) (w : World) :
    ((do eqGuard op t a b (SV.agg x).den (SV.agg y).den; binOp op t (SV.agg x).den (SV.agg y).den) : Sem Value).run P w = .ok v.den w := by
  unfold binAgg at h
  split at h
  · rename_i n e _ _ _ k n1 l1 k' n2 l2 htt hxx hyy
    have ht := (htab _ _ htt).und
    simp only [SV.agg.injEq] at hxx hyy
    subst hxx hyy
    split at h
    · rename_i k2 _ _ hee
      have he := (htab _ _ hee).und
      have hsz := fun w => run_size (htab _ _ hee) w
      split at h
      · rename_i hb
        simp only [Bool.and_eq_true] at hb
        obtain ⟨⟨h1, h2⟩, h3⟩ := hb
        have h1 := beq_true h1
        have h2 := beq_true h2
        cases kindEq_true h3
        have hl1 : l1.length = n := by have : l1.length = n1 := hx _ (List.mem_singleton.2 rfl); omega
        have hl2 : l2.length = n := by have : l2.length = n2 := hy _ (List.mem_singleton.2 rfl); omega
        have hd1 : (SV.agg [.ints k n1 l1]).den = .agg (l1.map (.int k)).toArray := by simp [SV.den, Cel.vals]
        have hd2 : (SV.agg [.ints k n2 l2]).den = .agg (l2.map (.int k)).toArray := by simp [SV.den, Cel.vals]
        rw [hd1, hd2, Sem.run_bind, run_eqGuard_agg w op t a b _ _ (noGuard ht he)]
        simp only [Result.andThen_ok]
        split at h
        · simp only [Option.some.injEq, Prod.mk.injEq] at h
          obtain ⟨rfl, rfl⟩ := h
          rw [run_eql_struct, run_equalIn_ints w 9998 t e n k k2 ht he hsz l1 l2 hl1 hl2]
          rfl
        · simp only [Option.some.injEq, Prod.mk.injEq] at h
          obtain ⟨rfl, rfl⟩ := h
          rw [run_neq_struct, run_equalIn_ints w 9998 t e n k k2 ht he hsz l1 l2 hl1 hl2]
          rfl
        · cases h
      · cases h
    · cases h
  · cases h

end Ab
end Go
