/- The operators, the abstract machine's and the model's. -/
import Derived.Test.YtpggklkofilmfaaAbStill
set_option linter.unusedSimpArgs false
set_option linter.unusedVariables false
namespace Go
namespace Ab
variable {P : Program}

theorem wrap_i64 {n : Int} (h : -9223372036854775808 ≤ n ∧ n ≤ 9223372036854775807) : IntKind.i64.wrap n = n := by
  simp only [IntKind.wrap, IntKind.bits, IntKind.signed]
  simp
  split <;> omega

theorem plainInt_spec {pl : Bool} {k : IntKind} {x y : Int} {p : C} {v : SV} (h : plainInt pl k x y = some (p, v)) (hp : p.holds) (hxy : y = k.wrap x) : v.den = .int k (k.wrap x) := by
  unfold plainInt at h
  split at h
  · simp only [Option.some.injEq, Prod.mk.injEq] at h
    obtain ⟨rfl, rfl⟩ := h
    simp only [SV.den, Cel.one, Cel.vals, List.headD_cons]
    rw [wrap_i64 hp]
  · simp only [Option.some.injEq, Prod.mk.injEq] at h
    obtain ⟨rfl, rfl⟩ := h
    simp [SV.den, Cel.one, Cel.vals, hxy]

theorem binInt_run {pl : Bool} {op : BinOp} {k : IntKind} {x y : Int} {p : C} {v : SV} (h : binInt pl op k x y = some (p, v)) (hp : p.holds) (t : TypeId) (w : World) :
    (binOp op t (.int k x) (.int k y)).run P w = .ok v.den w := by
  cases op <;> simp only [binInt, Option.some.injEq, Prod.mk.injEq, reduceCtorEq] at h
  case add => simp [binOp, Op.intArith, plainInt_spec h hp rfl]
  case sub => simp [binOp, Op.intArith, plainInt_spec h hp rfl]
  case mul => simp [binOp, Op.intArith, plainInt_spec h hp rfl]
  all_goals (obtain ⟨rfl, rfl⟩ := h)
  case quo => have hp' : y ≠ 0 := hp; simp [binOp, Op.intDiv, hp', SV.den, Cel.one, Cel.vals, iquo]
  case rem => have hp' : y ≠ 0 := hp; simp [binOp, Op.intDiv, hp', SV.den, Cel.one, Cel.vals]
  all_goals simp [binOp, Op.intBits, Op.intCmp, SV.den, Cel.one, Cel.vals, iand, ior, ixor, iandNot]
  case eql => by_cases e : x = y <;> simp [e]
  case neq => by_cases e : x = y <;> simp [e]

theorem equalIn_bool {t : TypeId} (hu : P.underlying t = some .bool) (d : Nat) (a b : Bool) (w : World) : (Op.equalIn (d + 1) t (.bool a) (.bool b)).run P w = .ok (a == b) w := by
  rw [Op.equalIn, Sem.run_bind, run_underlying hu]; rfl
theorem equalIn_pn {t e : TypeId} (hu : P.underlying t = some (.pointer e)) (d : Nat) (a : Addr) (w : World) : (Op.equalIn (d + 1) t (.pointer (some a)) (.pointer none)).run P w = .ok false w := by
  rw [Op.equalIn, Sem.run_bind, run_underlying hu]; rfl
theorem equalIn_np {t e : TypeId} (hu : P.underlying t = some (.pointer e)) (d : Nat) (b : Option Addr) (w : World) : (Op.equalIn (d + 1) t (.pointer none) (.pointer b)).run P w = .ok b.isNone w := by
  rw [Op.equalIn, Sem.run_bind, run_underlying hu]; rfl
theorem binOp_eql {t : TypeId} {x y : Value} {w : World} {b : Bool} (hx : ∀ k a, x ≠ .int k a) (hf : ∀ k a, x ≠ .float k a) (hc : ∀ k a b, x ≠ .complex k a b) (hs : ∀ a, x ≠ .string a)
    (h : (Op.equalIn (9999 + 1) t x y).run P w = .ok b w) : (binOp .eql t x y).run P w = .ok (.bool b) w := by
  have e : binOp .eql t x y = (do pure (.bool (← Op.equal t x y))) := by
    cases x <;> first
      | exact absurd rfl (hx _ _)
      | exact absurd rfl (hf _ _)
      | exact absurd rfl (hc _ _ _)
      | exact absurd rfl (hs _)
      | (cases y <;> rfl)
  rw [e, Sem.run_bind]
  change ((Op.equalIn (9999 + 1) t x y).run P w).andThen _ = _
  rw [h]; rfl
theorem binOp_neq {t : TypeId} {x y : Value} {w : World} {b : Bool} (hx : ∀ k a, x ≠ .int k a) (hf : ∀ k a, x ≠ .float k a) (hc : ∀ k a b, x ≠ .complex k a b) (hs : ∀ a, x ≠ .string a)
    (h : (Op.equalIn (9999 + 1) t x y).run P w = .ok b w) : (binOp .neq t x y).run P w = .ok (.bool !b) w := by
  have e : binOp .neq t x y = (do pure (.bool (!(← Op.equal t x y)))) := by
    cases x <;> first
      | exact absurd rfl (hx _ _)
      | exact absurd rfl (hf _ _)
      | exact absurd rfl (hc _ _ _)
      | exact absurd rfl (hs _)
      | (cases y <;> rfl)
  rw [e, Sem.run_bind]
  change ((Op.equalIn (9999 + 1) t x y).run P w).andThen _ = _
  rw [h]; rfl

theorem binV_run {pl : Bool} {op : BinOp} {x y : SV} {p : C} {v : SV} (h : binV pl op x y = some (p, v)) (hp : p.holds) (t : TypeId) (w : World)
    (hpt : (∀ a, x.den = .pointer a → ∃ e, P.underlying t = some (.pointer e)) ∧ (∀ b, x.den = .bool b → P.underlying t = some .bool)) :
    (binOp op t x.den y.den).run P w = .ok v.den w := by
  unfold binV at h
  split at h
  · rename_i k a k' b
    have hx : (SV.c (.v (.int k a))).den = .int k a := rfl
    have hy : (SV.c (.v (.int k' b))).den = .int k' b := rfl
    rw [hx, hy]
    split at h
    · simp only [Option.some.injEq, Prod.mk.injEq] at h
      obtain ⟨rfl, rfl⟩ := h
      have hb : ¬ b < 0 := by have : 0 ≤ b := hp; omega
      simp [binOp, Op.shift, hb, SV.den, Cel.one, Cel.vals, ishl]
    · simp only [Option.some.injEq, Prod.mk.injEq] at h
      obtain ⟨rfl, rfl⟩ := h
      have hb : ¬ b < 0 := by have : 0 ≤ b := hp; omega
      simp [binOp, Op.shift, hb, SV.den, Cel.one, Cel.vals, ishr]
    · split at h
      · rename_i hk
        cases kindEq_true hk
        exact binInt_run h hp t w
      · cases h
  · rename_i a b
    have hu := hpt.2 a rfl
    split at h
    · simp only [Option.some.injEq, Prod.mk.injEq] at h
      obtain ⟨rfl, rfl⟩ := h
      exact binOp_eql (by simp [SV.den, Cel.one, Cel.vals]) (by simp [SV.den, Cel.one, Cel.vals]) (by simp [SV.den, Cel.one, Cel.vals]) (by simp [SV.den, Cel.one, Cel.vals]) (equalIn_bool hu _ a b w)
    · simp only [Option.some.injEq, Prod.mk.injEq] at h
      obtain ⟨rfl, rfl⟩ := h
      exact binOp_neq (by simp [SV.den, Cel.one, Cel.vals]) (by simp [SV.den, Cel.one, Cel.vals]) (by simp [SV.den, Cel.one, Cel.vals]) (by simp [SV.den, Cel.one, Cel.vals]) (equalIn_bool hu _ a b w)
    · cases h
  · rename_i tg b o
    obtain ⟨e, hu⟩ := hpt.1 _ rfl
    split at h
    · simp only [Option.some.injEq, Prod.mk.injEq] at h
      obtain ⟨rfl, rfl⟩ := h
      exact binOp_eql (by simp [SV.den, Cel.one, Cel.vals]) (by simp [SV.den, Cel.one, Cel.vals]) (by simp [SV.den, Cel.one, Cel.vals]) (by simp [SV.den, Cel.one, Cel.vals]) (equalIn_pn hu _ _ w)
    · simp only [Option.some.injEq, Prod.mk.injEq] at h
      obtain ⟨rfl, rfl⟩ := h
      exact binOp_neq (by simp [SV.den, Cel.one, Cel.vals]) (by simp [SV.den, Cel.one, Cel.vals]) (by simp [SV.den, Cel.one, Cel.vals]) (by simp [SV.den, Cel.one, Cel.vals]) (equalIn_pn hu _ _ w)
    · cases h
  · rename_i tg b o
    obtain ⟨e, hu⟩ := hpt.1 _ rfl
    split at h
    · simp only [Option.some.injEq, Prod.mk.injEq] at h
      obtain ⟨rfl, rfl⟩ := h
      exact binOp_eql (by simp [SV.den, Cel.one, Cel.vals]) (by simp [SV.den, Cel.one, Cel.vals]) (by simp [SV.den, Cel.one, Cel.vals]) (by simp [SV.den, Cel.one, Cel.vals]) (equalIn_np hu _ _ w)
    · simp only [Option.some.injEq, Prod.mk.injEq] at h
      obtain ⟨rfl, rfl⟩ := h
      exact binOp_neq (by simp [SV.den, Cel.one, Cel.vals]) (by simp [SV.den, Cel.one, Cel.vals]) (by simp [SV.den, Cel.one, Cel.vals]) (by simp [SV.den, Cel.one, Cel.vals]) (equalIn_np hu _ _ w)
    · cases h
  · obtain ⟨e, hu⟩ := hpt.1 _ rfl
    split at h
    · simp only [Option.some.injEq, Prod.mk.injEq] at h
      obtain ⟨rfl, rfl⟩ := h
      exact binOp_eql (by simp [SV.den, Cel.one, Cel.vals]) (by simp [SV.den, Cel.one, Cel.vals]) (by simp [SV.den, Cel.one, Cel.vals]) (by simp [SV.den, Cel.one, Cel.vals]) (equalIn_np hu _ _ w)
    · simp only [Option.some.injEq, Prod.mk.injEq] at h
      obtain ⟨rfl, rfl⟩ := h
      exact binOp_neq (by simp [SV.den, Cel.one, Cel.vals]) (by simp [SV.den, Cel.one, Cel.vals]) (by simp [SV.den, Cel.one, Cel.vals]) (by simp [SV.den, Cel.one, Cel.vals]) (equalIn_np hu _ _ w)
    · cases h
  · split at h
    · simp only [Option.some.injEq, Prod.mk.injEq] at h
      obtain ⟨rfl, rfl⟩ := h
      simp [binOp, SV.den, Cel.one, Cel.vals, Op.stringOp]
    · simp only [Option.some.injEq, Prod.mk.injEq] at h
      obtain ⟨rfl, rfl⟩ := h
      simp [binOp, SV.den, Cel.one, Cel.vals, Op.stringOp]
    · cases h
  · cases h

end Ab
end Go
