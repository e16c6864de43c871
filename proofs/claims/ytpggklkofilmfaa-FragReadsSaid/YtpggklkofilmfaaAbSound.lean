/- The abstract machine's plain statement is enough: it gives the weakest precondition of the code. -/
import Derived.Test.YtpggklkofilmfaaAbEff
set_option linter.unusedSimpArgs false
set_option linter.unnecessarySimpa false
set_option linter.unusedVariables false
namespace Go
namespace Ab
variable {P : Program}

theorem then_iff {c : C} {q : Prop} : c.then q ↔ c.holds ∧ q := by
  cases c <;> simp [C.then, C.holds]
theorem Res.then_fits {r : Res} {h : Hp} {K : SV → Hp → Prop} (hr : r.then h K) : r.fits h K := by
  cases r <;> simp only [Res.then, Res.fits] at hr ⊢ <;> first
    | exact hr
    | exact then_iff.1 hr

/-! ### One state said by another -/
theorem Cel.same_vals {x y : Cel} (h : x.same y) : x.vals = y.vals ∧ (x.ok → y.ok) := by
  cases x with
  | v x => cases y with
    | sl t b o n c z =>
      cases x <;> simp only [Cel.same] at h <;> simp_all [Cel.vals, Cel.ok]
    | _ => simp only [Cel.same] at h <;> simp_all [Cel.vals, Cel.ok]
  | fn f l => cases y with
    | fn f' l' =>
      obtain ⟨rfl, h2⟩ := h
      refine ⟨?_, fun _ => trivial⟩
      have h3 : ∀ l : List (Nat × Blk × Nat), (l.map fun x => Value.pointer (some (x.2.1.at x.2.2))) = (l.map (·.2)).map fun y => Value.pointer (some (y.1.at y.2)) := fun l => by simp
      simp only [Cel.vals]
      rw [h3, h3, h2]
    | _ => exact h.elim
  | _ => cases y <;> simp only [Cel.same] at h <;> simp_all [Cel.vals, Cel.ok]
theorem sameL_vals : ∀ {l m : List Cel}, sameL l m → valsOf l = valsOf m ∧ ((∀ c ∈ l, c.ok) → ∀ c ∈ m, c.ok)
  | [], [], _ => ⟨rfl, fun h => h⟩
  | x :: l, y :: m, h => by
    obtain ⟨h1, h2⟩ := h
    obtain ⟨a1, a2⟩ := Cel.same_vals h1
    obtain ⟨b1, b2⟩ := sameL_vals h2
    refine ⟨by rw [valsOf_cons, valsOf_cons, a1, b1], fun h c hc => ?_⟩
    simp only [List.mem_cons] at hc
    rcases hc with rfl | hc
    · exact a2 (h _ (by simp))
    · exact b2 (fun c hc => h c (by simp [hc])) c hc
  | [], _ :: _, h => h.elim
  | _ :: _, [], h => h.elim
theorem SA.same_den {x y : SA} (h : x.same y) : x.den = y.den ∧ (x.ok → y.ok) := by
  cases x <;> cases y <;> simp only [SA.same] at h
  · exact ⟨by simp [SA.den, Cel.one, (Cel.same_vals h).1], fun _ => trivial⟩
  · obtain ⟨h1, h2⟩ := sameL_vals h
    exact ⟨by simp [SA.den, h1], h2⟩
theorem sameA_den : ∀ {l m : List SA}, sameA l m → l.map SA.den = m.map SA.den ∧ ((∀ c ∈ l, c.ok) → ∀ c ∈ m, c.ok)
  | [], [], _ => ⟨rfl, fun h => h⟩
  | x :: l, y :: m, h => by
    obtain ⟨h1, h2⟩ := h
    obtain ⟨a1, a2⟩ := SA.same_den h1
    obtain ⟨b1, b2⟩ := sameA_den h2
    refine ⟨by simp [a1, b1], fun h c hc => ?_⟩
    simp only [List.mem_cons] at hc
    rcases hc with rfl | hc
    · exact a2 (h _ (by simp))
    · exact b2 (fun c hc => h c (by simp [hc])) c hc
  | [], _ :: _, h => h.elim
  | _ :: _, [], h => h.elim
theorem SV.same_den {x y : SV} (h : x.same y) : x.den = y.den ∧ (x.ok → y.ok) := by
  cases x <;> cases y <;> simp only [SV.same] at h
  · exact ⟨by simp [SV.den, Cel.one, (Cel.same_vals h).1], fun _ => trivial⟩
  · obtain ⟨h1, h2⟩ := sameL_vals h
    exact ⟨by simp [SV.den, h1], h2⟩
  · obtain ⟨h1, h2⟩ := sameA_den h
    exact ⟨by simp [SV.den, h1], h2⟩
theorem Cont.isVoid_sat {x : Cont} (h : x.isVoid) {b : Blk} {f : Option (Bool × Obj)} : x.sat b f := by
  cases x with
  | cells t l =>
    obtain ⟨h1, h2⟩ := h
    refine ⟨okB_all h2, .inl ?_⟩
    rw [← vals_length (okB_all h2)] at h1
    exact List.eq_nil_of_length_eq_zero h1
  | void => trivial
  | op p => exact h.elim
theorem Cont.same_sat {x y : Cont} (h : x.same y) {b : Blk} {f : Option (Bool × Obj)} (hs : x.sat b f) : y.sat b f := by
  cases x with
  | cells t l => cases y with
    | cells t' l' =>
      obtain ⟨rfl, h⟩ := h
      obtain ⟨h1, h2⟩ := sameL_vals h
      simp only [Cont.sat] at hs ⊢
      rw [← h1]
      exact ⟨h2 hs.1, hs.2⟩
    | _ => exact h.elim
  | void => exact Cont.isVoid_sat h
  | op p => cases y with
    | op q => cases h; exact hs
    | _ => exact h.elim
theorem SlOk.ent {n : Nat} {s : Sl} {a : Act} (hs : SlOk n s a) : ∀ {u : Sl}, entSl s u → SlOk n u a
  | [], _ => ⟨hs.size, fun i v h => by simp [Sl.get] at h⟩
  | (i, v) :: r, h => by
    obtain ⟨h1, h2⟩ := h
    have ih := hs.ent h2
    refine ⟨hs.size, fun j x hj => ?_⟩
    rw [Sl.get_cons] at hj
    split at hj
    · rename_i e
      subst e
      cases hj
      split at h1
      · rename_i y hy
        obtain ⟨e1, e2⟩ := SV.same_den h1
        obtain ⟨g1, g2⟩ := hs.get _ _ hy
        exact ⟨by rw [← e1]; exact g1, e2 g2⟩
      · exact h1.elim
    · exact ih.get j x hj

/-- The tag that a block bears in the new telling. -/
def tm : List Nat → Hp → Nat → Option Nat
  | t :: m, (t', _, _) :: r, x => if x = t then some t' else tm m r x
  | _, _, _ => none
theorem elem_true {i : Nat} : ∀ {l : List Nat}, elem i l = true ↔ i ∈ l
  | [] => by simp [elem]
  | j :: r => by
    simp only [elem, List.mem_cons]
    split
    · rename_i h; simp [beq_true h]
    · rename_i h; rw [elem_true]; simp [beq_false h]
theorem nodupB_cons {x : Nat} {r : List Nat} (h : nodupB (x :: r) = true) : x ∉ r ∧ nodupB r = true := by
  simp only [nodupB] at h
  split at h
  · cases h
  · rename_i he
    exact ⟨fun hm => (by rw [elem_true.2 hm] at he; cases he), h⟩
theorem tm_mem : ∀ {m : List Nat} {u : Hp} {x y : Nat}, tm m u x = some y → x ∈ m ∧ y ∈ tagsOf u
  | [], _, x, y, h => by simp [tm] at h
  | t :: m, [], x, y, h => by simp [tm] at h
  | t :: m, (t', b, c) :: r, x, y, h => by
    simp only [tm] at h
    split at h
    · rename_i e; cases h; simp [e, tagsOf]
    · obtain ⟨h1, h2⟩ := tm_mem h; simp [h1, h2, tagsOf]
theorem tagsOf_get : ∀ {u : Hp} {t : Nat} {x : Blk × Cont}, u.get t = some x → t ∈ tagsOf u
  | [], t, x, h => by simp [Hp.get] at h
  | (t', b, c) :: r, t, x, h => by
    simp only [Hp.get] at h
    split at h
    · rename_i e; simp [tagsOf, beq_true e]
    · simp [tagsOf, tagsOf_get h]
theorem tm_spec {h : Hp} : ∀ {m : List Nat} {u : Hp}, entHp h m u → nodupB m = true → nodupB (tagsOf u) = true → ∀ {t' : Nat} {b : Blk} {c : Cont}, u.get t' = some (b, c) →
    ∃ t, ((∃ c', h.get t = some (b, c') ∧ c'.same c) ∨ (h.get t = none ∧ c.isVoid)) ∧ t ∈ m ∧ ∀ x, tm m u x = some t' ↔ x = t
  | [], [], _, _, _, t', b, c, hg => by simp [Hp.get] at hg
  | t :: m, (s, b0, c0) :: r, he, hm, hu, t', b, c, hg => by
    obtain ⟨h1, h2⟩ := he
    obtain ⟨m1, m2⟩ := nodupB_cons hm
    obtain ⟨u1, u2⟩ := nodupB_cons (x := s) (r := tagsOf r) hu
    simp only [Hp.get] at hg
    split at hg
    · rename_i e
      have e := beq_true e
      subst e
      cases hg
      refine ⟨t, ?_, by simp, fun x => ?_⟩
      · split at h1
        · rename_i b' c' hx
          obtain ⟨rfl, hs⟩ := h1
          exact .inl ⟨c', hx, hs⟩
        · rename_i hx
          exact .inr ⟨hx, h1⟩
      simp only [tm]
      constructor
      · intro hh
        split at hh
        · assumption
        · exact absurd (tm_mem hh).2 u1
      · intro e; rw [if_pos e]
    · rename_i e
      have e := beq_false e
      obtain ⟨t1, g1, g3, g4⟩ := tm_spec h2 m2 u2 hg
      refine ⟨t1, g1, by simp [g3], fun x => ?_⟩
      simp only [tm]
      constructor
      · intro hh
        split at hh
        · cases hh; exact absurd rfl e
        · exact (g4 x).1 hh
      · intro hx
        rw [if_neg]
        · exact (g4 x).2 hx
        · rintro rfl; subst hx; exact m1 g3
  | [], _ :: _, he, _, _, _, _, _, _ => he.elim
  | _ :: _, [], he, _, _, _, _, _, _ => he.elim

/-- The owner in the new telling. -/
def Ow.map (f : Nat → Option Nat) : Ow → Option Ow
  | .ro => some .ro
  | .tag t => (f t).map .tag
theorem Own.ent {h : Hp} {o : Nat → Option Ow} {w : World} (hw : Own h o w) {m : List Nat} {u : Hp} (he : entHp h m u) (hm : nodupB m = true) (hu : nodupB (tagsOf u) = true) :
    Own u (fun x => (o x).bind (Ow.map (tm m u))) w := by
  refine ⟨fun x t hx => ?_, fun t b c hg => ?_⟩
  · cases ho : o x with
    | none => simp [ho] at hx
    | some t => exact hw.lt x t ho
  · obtain ⟨t1, g1, _, g4⟩ := tm_spec he hm hu hg
    rcases g1 with ⟨c', g1, g2⟩ | ⟨_, g1⟩
    case inr => exact Cont.isVoid_sat g1
    refine Cont.sat_mono (fun z hz => ?_) (Cont.same_sat g2 (hw.sat t1 b c' g1))
    obtain ⟨h1, h2⟩ := view_some.1 hz
    refine view_some.2 ⟨h1, ?_⟩
    rcases h2 with ⟨e1, e⟩ | ⟨e1, e⟩
    · exact .inl ⟨e1, by rw [e]; rfl⟩
    · refine .inr ⟨e1, ?_⟩
      rw [e]
      simp [Ow.map, (g4 t1).2 rfl]
theorem Fr.ent {w : World} {o : Nat → Option Ow} {w' : World} {o' : Nat → Option Ow} (h : Fr w o w' o') (f : Nat → Option Nat) : Fr w o w' (fun x => (o' x).bind (Ow.map f)) :=
  ⟨h.size, fun x hx ho => ⟨by simp [(h.old x hx ho).1], (h.old x hx ho).2⟩, fun x ho => ⟨by simp [(h.ro x ho).1, Ow.map], (h.ro x ho).2⟩, h.tape, h.os, h.out⟩

structure St (n : Nat) (w0 : World) (o0 : Nat → Option Ow) (s : Sl) (h : Hp) (a : Act) (w : World) : Prop where
  sl : SlOk n s a
  defers : a.defers = []
  own : ∃ o, Own h o w ∧ Fr w0 o0 w o

variable {n : Nat} {w0 : World} {o0 : Nat → Option Ow}
/-- The state is one that 'i' speaks of. -/
def InvAt (n : Nat) (w0 : World) (o0 : Nat → Option Ow) (i : Inv) (q : i.G → Prop) (a : Act) (w : World) : Prop :=
  ∃ g, i.pre g ∧ q g ∧ St n w0 o0 (i.sl g) (i.hp g) a w
theorem St.meets {s : Sl} {h : Hp} {a : Act} {w : World} (hst : St n w0 o0 s h a w) {i : Inv} {q : i.G → Prop} (hm : meets i s h q) : InvAt n w0 o0 i q a w := by
  obtain ⟨g, m, h1, h2, h3, h4, h5, h6⟩ := hm
  obtain ⟨o, hw, hf⟩ := hst.own
  exact ⟨g, h5, h6, hst.sl.ent h3, hst.defers, _, hw.ent h4 h1 h2, hf.ent _⟩

theorem put_defers (a : Act) (d : Option Tmp) (v : Value) : (a.put d v).defers = a.defers := by cases d <;> rfl
theorem okDst_lt {cx : Cx} {d : Option Nat} (h : okDst cx d = true) : ∀ k, d = some k → k < cx.ntmps := by
  intro k hk
  subst hk
  exact blt_true h

/-- The outcome of an operation. -/
theorem St.step {cx : Cx} {s : Sl} {h : Hp} {a : Act} {w : World} {w0 : World} {o0 : Nat → Option Ow} (hst : St cx.ntmps w0 o0 s h a w) {d : Option Nat} (hd : okDst cx d = true) {v : SV} (hv : v.ok)
    {o : Nat → Option Ow} (hf0 : Fr w0 o0 w o) {h' : Hp} {w' : World} {o' : Nat → Option Ow} (hw : Own h' o' w') (hf : Fr w o w' o') : St cx.ntmps w0 o0 (s.setD d v) h' (a.put d v.den) w' :=
  ⟨hst.sl.put (okDst_lt hd) hv, by rw [put_defers]; exact hst.defers, o', hw, hf0.trans hf⟩

theorem stepOp_wp {cx : Cx} (hcx : CxOk P cx) {s : Sl} {h : Hp} {a : Act} {w : World} (hst : St cx.ntmps w0 o0 s h a w) (O : Oper) {F : SV → Hp → Prop} (hr : (stepOp cx s h O).fits h F)
    {K : Act → World → Prop} {Q : Exit → Act → World → Prop} (hk : ∀ v h' a' w', F v h' → St cx.ntmps w0 o0 (s.setD O.dst v) h' a' w' → a' = a.put O.dst v.den → K a' w') : O.wp P a w K Q := by
  unfold stepOp at hr
  split at hr
  · exact hr.elim
  · rename_i hd
    obtain ⟨o, hw, hf⟩ := hst.own
    have still : (stillOp cx s h O.op).fits h F → O.wp P a w K Q := by
      intro hr
      cases hs : stillOp cx s h O.op with
      | st p v =>
        rw [hs] at hr
        obtain ⟨h1, h2⟩ := stillOp_run hcx.tab hst.sl hs hr.1 (fun _ => hw) O rfl
        unfold Oper.wp
        rw [h1]
        exact hk v h _ _ hr.2 (hst.step hd h2 hf hw (Fr.refl _ _)) rfl
      | bad => rw [hs] at hr; exact hr.elim
      | det p v h' => exact absurd hs stillOp_det
      | eff p R q v h' => exact absurd hs stillOp_eff
    have eff : (effOp cx s h O.dst O.op).fits h F → O.wp P a w K Q := fun hr =>
      effOp_wp hcx hst.sl hw O hr fun v h' w' o' hv hF ho hf' => hk v h' _ _ hF (hst.step hd hv hf ho hf') rfl
    split at hr
    · exact still hr
    · exact still hr
    · exact eff hr
    · exact eff hr

end Ab
end Go
