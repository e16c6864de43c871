/- A region that draws its order, walked in one canonical order: quiet operations as soon as they may come up, the others where nothing else may. -/
import Derived.OrdersHeld
set_option linter.unusedSimpArgs false
set_option linter.unusedVariables false
namespace Go
namespace Ab
section
variable {P : Program} {ops : Array Oper} {Q : Exit → Act → World → Prop} {md : Region.Mode}

theorem getD_both {listed : Array Bool} {i : Nat} (h : listed.getD i true = false) : listed.getD i false = false := by
  rcases Nat.lt_or_ge i listed.size with h' | h'
  · simp [h'] at h ⊢; exact h
  · simp [Array.getElem?_eq_none h'] at h

/-- Closed under what must come before. -/
def Closed (md : Region.Mode) (ops : Array Oper) (listed : Array Bool) : Prop :=
  ∀ j oj, ops[j]? = some oj → listed.getD j false = true → ∀ e ∈ oj.after, Region.binds md e = true → listed.getD e.on false = true

theorem Closed.set {listed : Array Bool} {i : Nat} (h : Closed md ops listed) (hi : i ∈ Region.ready md ops listed) :
    Closed md ops (listed.setIfInBounds i true) := by
  obtain ⟨_, oi, hoi, hall⟩ := mem_ready.1 hi
  intro j oj hj hl e he hb
  by_cases hij : i = j
  · subst hij
    have : oj = oi := Option.some.inj (hj.symm.trans hoi)
    subst this
    exact getD_set_true (hall e he hb)
  · rw [getD_set_ne false hij] at hl
    exact getD_set_true (h j oj hj hl e he hb)

/-- 'j' waits for 'i', through at most 'n' steps. -/
def waitsN (md : Region.Mode) (ops : Array Oper) : Nat → Nat → Nat → Bool
  | 0, _, _ => false
  | n + 1, j, i => match ops[j]? with
    | none => false
    | some oj => oj.after.any fun e => Region.binds md e && (e.on == i || waitsN md ops n e.on i)

theorem waitsN_not_listed {i : Nat} {listed : Array Bool} (hc : Closed md ops listed) (hi : listed.getD i false = false) :
    ∀ n j, waitsN md ops n j i = true → ∀ oj, ops[j]? = some oj → ∃ e ∈ oj.after, Region.binds md e = true ∧ listed.getD e.on false = false
  | 0, _, h, _, _ => by simp [waitsN] at h
  | n + 1, j, h, oj, hj => by
    simp only [waitsN, hj] at h
    obtain ⟨e, he, hb⟩ := Array.any_eq_true'.1 h
    simp only [Bool.and_eq_true, Bool.or_eq_true, beq_iff_eq] at hb
    refine ⟨e, he, hb.1, ?_⟩
    rcases hb.2 with rfl | hw
    · exact hi
    · cases hl : listed.getD e.on false with
      | false => rfl
      | true =>
        have hlt : ∃ oe, ops[e.on]? = some oe := by
          cases n with
          | zero => simp [waitsN] at hw
          | succ n => simp only [waitsN] at hw; cases ho : ops[e.on]? with
            | none => simp [ho] at hw
            | some oe => exact ⟨oe, rfl⟩
        obtain ⟨oe, hoe⟩ := hlt
        obtain ⟨e', he', hb', hl'⟩ := waitsN_not_listed hc hi n e.on hw oe hoe
        have := hc e.on oe hoe hl e' he' hb'
        rw [hl'] at this; cases this

theorem waits_not_ready {i j n : Nat} {listed : Array Bool} (hc : Closed md ops listed) (hi : listed.getD i false = false)
    (hw : waitsN md ops n j i = true) : j ∉ Region.ready md ops listed := by
  intro hr
  obtain ⟨_, oj, hj, hall⟩ := mem_ready.1 hr
  obtain ⟨e, he, hb, hl⟩ := waitsN_not_listed hc hi n j hw oj hj
  rw [hall e he hb] at hl; cases hl

/-- Whatever order is picked, 'S' holding behind each operation that is not a writer, until a writer has come up. -/
def anyX (P : Program) (md : Region.Mode) (ops : Array Oper) (Q : Exit → Act → World → Prop) (W : Nat → Bool) (S : World → Prop) : Nat → Array Bool → Act → World → Prop
  | 0, listed, a, w => Region.ready md ops listed = [] ∧ Q .normal a w
  | fuel + 1, listed, a, w =>
    (Region.ready md ops listed = [] → Q .normal a w) ∧
    ∀ i ∈ Region.ready md ops listed, wpOp P ops Q i (fun a' w' =>
      (W i = true → wpAny P md ops Q fuel (listed.setIfInBounds i true) a' w') ∧
      (W i = false → S w' ∧ anyX P md ops Q W S fuel (listed.setIfInBounds i true) a' w')) a w

variable {W : Nat → Bool} {S S' : World → Prop}

theorem wpAny_of_anyX : ∀ (fuel : Nat) (listed : Array Bool) (a : Act) (w : World), anyX P md ops Q W S fuel listed a w → wpAny P md ops Q fuel listed a w
  | 0, _, _, _, h => h
  | fuel + 1, _, _, _, h => ⟨h.1, fun i hi => wpOp_mono (fun a' w' h' => by
      cases hw : W i with
      | true => exact h'.1 hw
      | false => exact wpAny_of_anyX fuel _ a' w' (h'.2 hw).2) (h.2 i hi)⟩

theorem anyX_weaken (hS : ∀ w, S' w → S w) : ∀ (fuel : Nat) (listed : Array Bool) (a : Act) (w : World), anyX P md ops Q W S' fuel listed a w → anyX P md ops Q W S fuel listed a w
  | 0, _, _, _, h => h
  | fuel + 1, _, _, _, h => ⟨h.1, fun i hi => wpOp_mono (fun a' w' h' =>
      ⟨h'.1, fun hw => ⟨hS _ (h'.2 hw).1, anyX_weaken hS fuel _ a' w' (h'.2 hw).2⟩⟩) (h.2 i hi)⟩

/-- A quiet operation that may come up may be taken first. -/
theorem anyX_first {i : Nat} {oi : Oper} {v : Value} (hi : ops[i]? = some oi) (hsel : ∀ (j : Nat) (o : Oper) cs b, ops[j]? = some o → o.op ≠ .select cs b)
    (hQ : ∀ c a w, Q (.panic c) (a.put oi.dst v) w → Q (.panic c) a w) (hWi : W i = false) :
    ∀ (fuel : Nat) (listed : Array Bool) (a : Act) (w : World), Closed md ops listed →
      (∀ j, W j = true → ∀ l, Closed md ops l → (∀ k, listed.getD k false = true → l.getD k false = true) → l.getD i false = false → j ∉ Region.ready md ops l) →
      (∀ j oj, ops[j]? = some oj → j ≠ i → listed.getD j true = false → (∀ e ∈ oj.after, Region.binds md e = true → e.on ≠ i) → oi.apart ops oj = true) →
      i ∈ Region.ready md ops listed → YieldsIf P ops S oi v a → S w →
      anyX P md ops Q W S fuel (listed.setIfInBounds i true) (a.put oi.dst v) w → anyX P md ops Q W S (fuel + 1) listed a w := by
  intro fuel
  induction fuel with
  | zero =>
    intro listed a w _ _ _ hr hy hS H
    refine ⟨fun h => (by rw [h] at hr; cases hr), fun j hj => ?_⟩
    by_cases hji : j = i
    · subst hji; exact hy.wpOp hi hS ⟨fun h => (by rw [hWi] at h; cases h), fun _ => ⟨hS, H⟩⟩
    · have := ready_mono hj hji
      rw [H.1] at this
      cases this
  | succ fuel ih =>
    intro listed a w hcl hW hfree hr hy hS H
    refine ⟨fun h => (by rw [h] at hr; cases hr), fun j hj => ?_⟩
    by_cases hji : j = i
    · subst hji; exact hy.wpOp hi hS ⟨fun h => (by rw [hWi] at h; cases h), fun _ => ⟨hS, H⟩⟩
    · have hiu : listed.getD i false = false := getD_both (mem_ready.1 hr).1
      have hjW : W j = false := by
        cases hw : W j with
        | false => rfl
        | true => exact absurd hj (hW j hw listed hcl (fun _ h => h) hiu)
      have h1 := H.2 j (ready_mono hj hji)
      obtain ⟨hjun, oj, hoj, hall⟩ := mem_ready.1 hj
      have hnot : ∀ e ∈ oj.after, Region.binds md e = true → e.on ≠ i := fun e he hb heq => by
        have h1 := hall e he hb
        rw [heq, hiu] at h1; cases h1
      have h2 := wpOp_putIf hoj (hfree j oj hoj hji hjun hnot) (fun cs b => hsel i oi cs b hi) (fun cs b => hsel j oj cs b hoj) hQ hy h1
      have hfree' : ∀ k ok, ops[k]? = some ok → k ≠ i → (listed.setIfInBounds j true).getD k true = false →
          (∀ e ∈ ok.after, Region.binds md e = true → e.on ≠ i) → oi.apart ops ok = true := fun k ok hk hki hun hno => by
        refine hfree k ok hk hki ?_ hno
        by_cases hjk : j = k
        · subst hjk; exact hjun
        · rw [getD_set_ne true hjk] at hun; exact hun
      refine wpOp_mono (fun a' w' h3 => ⟨fun h => (by rw [hjW] at h; cases h), fun _ => ⟨(h3.2.2 hjW).1, ?_⟩⟩) h2
      refine ih (listed.setIfInBounds j true) a' w' (hcl.set hj) (fun k hk l hl hsub hli => hW k hk l hl (fun m hm => hsub m (getD_set_true hm)) hli) hfree'
        (ready_mono hr (Ne.symm hji)) h3.1 (h3.2.2 hjW).1 ?_
      rw [Array.setIfInBounds_comm _ _ hji]
      exact (h3.2.2 hjW).2

/-- The writers that are not yet listed all wait for 'i'. -/
def writersWait (md : Region.Mode) (ops : Array Oper) (W : Nat → Bool) (listed : Array Bool) (i : Nat) : Bool :=
  (List.range ops.size).all fun j => !W j || listed.getD j false || waitsN md ops ops.size j i

theorem writersWait_spec {i : Nat} {listed : Array Bool} (h : writersWait md ops W listed i = true) :
    ∀ j, W j = true → ∀ l, Closed md ops l → (∀ k, listed.getD k false = true → l.getD k false = true) → l.getD i false = false → j ∉ Region.ready md ops l := by
  intro j hj l hl hsub hi hr
  obtain ⟨hu, oj, hoj, hall⟩ := mem_ready.1 hr
  have hlt : j < ops.size := (Array.getElem?_eq_some_iff.1 hoj).1
  have h1 := List.all_eq_true.1 h j (List.mem_range.2 hlt)
  simp only [hj, Bool.not_true, Bool.false_or, Bool.or_eq_true] at h1
  rcases h1 with h1 | h1
  · have h4 := getD_both hu
    rw [hsub j h1] at h4; cases h4
  · exact waits_not_ready hl hi h1 hr

/-- A pure operation that may come up may be taken first, writers or not. -/
theorem anyX_first_pure {i : Nat} {oi : Oper} {v : Value} (hi : ops[i]? = some oi) (hsel : ∀ (j : Nat) (o : Oper) cs b, ops[j]? = some o → o.op ≠ .select cs b)
    (hQ : ∀ c a w, Q (.panic c) (a.put oi.dst v) w → Q (.panic c) a w) (hWi : W i = false) :
    ∀ (fuel : Nat) (listed : Array Bool) (a : Act) (w : World),
      (∀ j oj, ops[j]? = some oj → j ≠ i → listed.getD j true = false → (∀ e ∈ oj.after, Region.binds md e = true → e.on ≠ i) → oi.apart ops oj = true) →
      i ∈ Region.ready md ops listed → Yields P ops oi v a → S w →
      anyX P md ops Q W S fuel (listed.setIfInBounds i true) (a.put oi.dst v) w → anyX P md ops Q W S (fuel + 1) listed a w := by
  intro fuel
  induction fuel with
  | zero =>
    intro listed a w _ hr hy hS H
    refine ⟨fun h => (by rw [h] at hr; cases hr), fun j hj => ?_⟩
    by_cases hji : j = i
    · subst hji; exact hy.yieldsIf.wpOp (S := S) hi hS ⟨fun h => (by rw [hWi] at h; cases h), fun _ => ⟨hS, H⟩⟩
    · have := ready_mono hj hji
      rw [H.1] at this
      cases this
  | succ fuel ih =>
    intro listed a w hfree hr hy hS H
    refine ⟨fun h => (by rw [h] at hr; cases hr), fun j hj => ?_⟩
    by_cases hji : j = i
    · subst hji; exact hy.yieldsIf.wpOp (S := S) hi hS ⟨fun h => (by rw [hWi] at h; cases h), fun _ => ⟨hS, H⟩⟩
    · have hiu : listed.getD i false = false := getD_both (mem_ready.1 hr).1
      have h1 := H.2 j (ready_mono hj hji)
      obtain ⟨hjun, oj, hoj, hall⟩ := mem_ready.1 hj
      have hnot : ∀ e ∈ oj.after, Region.binds md e = true → e.on ≠ i := fun e he hb heq => by
        have h1 := hall e he hb
        rw [heq, hiu] at h1; cases h1
      have h2 := wpOp_put hoj (hfree j oj hoj hji hjun hnot) (fun cs b => hsel i oi cs b hi) (fun cs b => hsel j oj cs b hoj) hQ hy h1
      have hfree' : ∀ k ok, ops[k]? = some ok → k ≠ i → (listed.setIfInBounds j true).getD k true = false →
          (∀ e ∈ ok.after, Region.binds md e = true → e.on ≠ i) → oi.apart ops ok = true := fun k ok hk hki hun hno => by
        refine hfree k ok hk hki ?_ hno
        by_cases hjk : j = k
        · subst hjk; exact hjun
        · rw [getD_set_ne true hjk] at hun; exact hun
      refine wpOp_mono (fun a' w' h3 => ⟨fun hw => ?_, fun hw => ⟨(h3.2.2 hw).1, ?_⟩⟩) h2
      · refine wpAny_first hi hsel hQ fuel (listed.setIfInBounds j true) a' w' hfree' (ready_mono hr (Ne.symm hji)) h3.1 ?_
        rw [Array.setIfInBounds_comm _ _ hji]
        exact h3.2.1 hw
      · refine ih (listed.setIfInBounds j true) a' w' hfree' (ready_mono hr (Ne.symm hji)) h3.1 (h3.2.2 hw).1 ?_
        rw [Array.setIfInBounds_comm _ _ hji]
        exact (h3.2.2 hw).2

/-- The one operation that may come up. -/
theorem anyX_one {i : Nat} {fuel : Nat} {listed : Array Bool} {a : Act} {w : World} (hr : Region.ready md ops listed = [i])
    (h : wpOp P ops Q i (fun a' w' =>
      (W i = true → wpAny P md ops Q fuel (listed.setIfInBounds i true) a' w') ∧
      (W i = false → S w' ∧ anyX P md ops Q W S fuel (listed.setIfInBounds i true) a' w')) a w) : anyX P md ops Q W S (fuel + 1) listed a w :=
  ⟨fun h0 => (by rw [hr] at h0; cases h0), fun j hj => by
    rw [hr] at hj
    cases hj with
    | head => exact h
    | tail _ h => cases h⟩

end
end Ab
end Go
