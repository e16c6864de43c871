/- What only computes or reads: the abstract machine's value is the model's. -/
import Derived.Test.YtpggklkofilmfaaAbCells
set_option linter.unusedSimpArgs false
set_option linter.unusedVariables false
namespace Go
namespace Ab
variable {P : Program}

theorem TyOk.info {t : TypeId} {i : TI} (h : TyOk P t i) : ∃ x, P.info? t = some x ∧ x.size = i.size ∧ x.bytes = i.bytes ∧ x.zero = some i.zeroV := by
  have h1 := h.size
  have h2 := h.zero
  cases hx : P.info? t with
  | none => simp [hx] at h1
  | some x => simp [hx] at h1 h2; exact ⟨x, rfl, h1.1, h1.2, h2⟩
theorem run_und {t : TypeId} {i : TI} (h : TyOk P t i) (w : World) : (underlying t).run P w = .ok i.und w := run_underlying h.und w
theorem run_size {t : TypeId} {i : TI} (h : TyOk P t i) (w : World) : (sizeOf t).run P w = .ok i.size w := by
  obtain ⟨x, hx, hs, _, _⟩ := h.info
  simp [sizeOf, typeInfo, hx, hs]
theorem run_info {t : TypeId} {i : TI} (h : TyOk P t i) (w : World) : ∃ x, (typeInfo t).run P w = .ok x w ∧ x.size = i.size ∧ x.bytes = i.bytes ∧ x.zero = some i.zeroV := by
  obtain ⟨x, hx, hs⟩ := h.info
  exact ⟨x, by simp [typeInfo, hx], hs⟩
theorem run_agg {t : TypeId} {i : TI} (h : TyOk P t i) (w : World) : (isAgg t).run P w = .ok (isRow i.und) w := by
  unfold isAgg
  rw [Sem.run_bind, run_und h w]
  simp only [Result.andThen_ok]
  cases hd : i.und <;> simp [isRow]
theorem run_zero {t : TypeId} {i : TI} (h : TyOk P t i) (w : World) : (zeroValue t).run P w = .ok i.zeroV w := by
  obtain ⟨x, hx, _, _, hz⟩ := h.info
  simp [zeroValue, typeInfo, hx, hz]

/-- The table is the program's. -/
def TabOk (P : Program) (tab : Tab) : Prop := ∀ t i, tab t = some i → TyOk P t i

theorem run_load_cells {h : Hp} {o : Nat → Option Ow} {w : World} (hw : Own h o w) {tg : Nat} {b : Blk} {ty : TypeId} {l : List Cel} (hg : h.get tg = some (b, .cells ty l))
    {t : TypeId} {i : TI} (ht : TyOk P t i) {off : Nat} {v : SV} {p : C} (hp : p.holds)
    (hv : (match isRow i.und with
      | true => match rdN l off i.size with
        | some (p, v) => Res.st (C.and (some (b = b)) p) (.agg v)
        | none => .bad
      | false => match rd1 l off with
        | some (p, v) => Res.st (C.and (some (b = b)) p) (.c v)
        | none => .bad) = .st p v) :
    (Instr.loadAt t (.pointer (some (b.at off)))).run P w = .ok v.den w := by
  have hok := hw.oks hg
  have hand : ∀ q : C, (C.and (some (b = b)) q).holds → q.holds := by
    intro q hq
    cases q with
    | none => trivial
    | some q => exact hq.2
  simp only [Instr.loadAt, Instr.sureAddr, Sem.run_bind, Sem.run_pure, Result.andThen_ok, loadVar, run_agg ht]
  split at hv
  · rename_i hrow
    simp only [hrow, if_true]
    split at hv
    · rename_i q v' hr
      injection hv with h1 h2
      subst h1 h2
      obtain ⟨h1, h2, h3⟩ := rdN_spec l off i.size q v' hr (hand q hp) hok
      have hlen : (valsOf v').length = i.size := by rw [h1]; simp; omega
      simp only [Sem.run_bind, run_size ht, Result.andThen_ok]
      have := run_loadCells_list (P := P) w (b.at off) (valsOf v') (fun j x hx => by
        rw [Blk.add_at]
        refine hw.cell hg ?_
        rw [h1] at hx
        rw [List.getElem?_take] at hx
        split at hx
        · rw [List.getElem?_drop] at hx; exact hx
        · cases hx)
      rw [hlen] at this
      simp [this, SV.den]
    · cases hv
  · rename_i hrow
    simp only [hrow, Bool.false_eq_true, if_false]
    split at hv
    · rename_i q v' hr
      injection hv with h1 h2
      subst h1 h2
      obtain ⟨h1, _⟩ := rd1_spec l off q v' hr (hand q hp) hok
      simp [hw.cell hg h1, SV.den]
    · cases hv

end Ab
end Go
