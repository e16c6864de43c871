/- From a function's contract to a given row: what a law that tells true, and that turns nothing below the heap's old size, leaves behind. -/
import Derived.Test.YtpggklkofilmfaaAbSpec
import Derived.ProofKit
set_option linter.unusedSimpArgs false
set_option linter.unusedVariables false
namespace Go
namespace Ab
open Go.ChangeShapes Go.WideShapes Go.ChangeAt Go.RowKit
variable {H : Type} {enc : TypeId × Value → H} {P : Program}

theorem trodAll_stays (hl : laidOutB P = true) {W W' : World} (hb : Below W.heap.size W W') {sp : Nat → Bool} :
    ∀ {ts : List TypeId} {vs : List Value} {ds : List (DataW H)} {ps : List MemPlace}, (∀ t ∈ ts, P.readableRec t = true ∧ t < P.types.size) → DataW.TrodAll enc P W 0 (fun _ => true) true ts vs ds ps →
      (∀ x ∈ ps, x.block < W.heap.size ∧ sp x.block = true) → DataW.TrodAll enc P W' 0 sp true ts vs ds ps
  | [], vs, ds, ps, _, h, _ => by
    obtain ⟨rfl, rfl, rfl⟩ := trodAll_nil h
    rfl
  | t :: ts, vs, ds, ps, ht, h, hp => by
    obtain ⟨v, vs', d, ds', p, q, rfl, rfl, rfl, h1, h2⟩ := trodAll_cons h
    obtain ⟨r1, r2⟩ := ht t (by simp)
    refine ⟨p, q, ?_, trodAll_stays hl hb (fun t h => ht t (by simp [h])) h2 (fun x hx => hp x (by simp [hx])), rfl⟩
    exact WideElems.Trod_stays hl r1 r2 h1 (fun x hx => hb.same (hp x (by simp [hx])).1) (fun x hx => (hp x (by simp [hx])).2)

theorem post_true {f : Func} {s : ChangeSpec} {W W' : World} {args : Array Value} {ds gs : List (DataW H)} {before : List MemPlace}
    (hl : laidOutB P = true) (hts : ∀ t ∈ f.params.toList, P.readableRec t = true ∧ t < P.types.size) (hvars : s.vars = [])
    (hfn : s.fn H (ds ++ gs) = { results := [.lit (.bool true)], args := ds }) {bt : TypeId} (hr : f.resultTypes = #[bt]) (hb : P.underlying bt = some .bool)
    (hW : DataW.Whole enc P f.params.toList s.vars false W args.toList ds gs before) (hB : Below W.heap.size W W') :
    s.post enc P f false true false false W args (.bool true) W' := by
  have hW' := hW
  obtain ⟨p, q, hA, hV, rfl, _, _⟩ := hW
  rw [hvars] at hV
  obtain ⟨rfl, rfl⟩ := trodVars_none hV
  refine ⟨ds, [], p ++ [], [], p, [], hW', ?_, ?_, ?_, hB.frame _, fun h => by cases h⟩
  · rw [hfn, hr]
    exact trodAll_mk1 (shut_bool hb true)
  · rw [hfn]
    exact trodAll_stays hl hB hts hA (fun x hx => by
      have := hW'.lt x (by simp [hx])
      exact ⟨this, by simpa using this⟩)
  · rw [hfn, hvars]
    rfl

/-- Nothing is written to but what is new: all that was there is as it was. -/
theorem below_of_fr {w w' : World} {o o' : Nat → Option Ow} (h : Fr w o w' o') (ho : ∀ x, o x = none ∨ o x = some .ro) : Below w.heap.size w w' :=
  ⟨h.os, h.tape, h.out, h.size, fun x hx => (ho x).elim (fun h1 => (h.old x hx h1).2) fun h1 => (h.ro x h1).2⟩
/-- All that is there, for reading alone. -/
def allRo (w : World) : Nat → Option Ow := fun x => if x < w.heap.size then some .ro else none
theorem allRo_or (w : World) (x : Nat) : allRo w x = none ∨ allRo w x = some .ro := by
  unfold allRo
  split
  · exact .inr rfl
  · exact .inl rfl
theorem own_nil (w : World) : Own [] (allRo w) w := by
  refine ⟨fun x s h => ?_, fun t b c h => (by simp [Hp.get] at h)⟩
  unfold allRo at h
  split at h
  · assumption
  · cases h
theorem own_cons {w : World} {h : Hp} (hw : Own h (allRo w) w) (t : Nat) {b : Blk} {c : Cont} (hc : ∀ t, c.sat b (view w (allRo w) t b.n)) : Own ((t, b, c) :: h) (allRo w) w := ⟨hw.lt, fun t' b' c' hg => by
  simp only [Hp.get] at hg
  split at hg
  · cases hg; exact hc t'
  · exact hw.sat t' b' c' hg⟩
theorem window_ints {L : List Value} {off n : Nat} {zs : List Int} {k : IntKind} (hz : zs.length = n) (h : ∀ i, i < n → L[off + i]? = some (.int k (zs.getD i 0))) :
    L = L.take off ++ (zs.map (.int k) ++ L.drop (off + n)) := by
  by_cases hn : n = 0
  · subst hn
    have : zs = [] := List.eq_nil_of_length_eq_zero hz
    subst this
    simp
  have hlen : off + n ≤ L.length := by
    have := (List.getElem?_eq_some_iff.1 (h (n - 1) (by omega))).1
    omega
  have hmid : zs.map (.int k) = (L.drop off).take n := by
    apply List.ext_getElem?
    intro i
    rw [List.getElem?_map, List.getElem?_take]
    by_cases hi : i < n
    · rw [if_pos hi, List.getElem?_drop, h i hi]
      simp [List.getD_eq_getElem?_getD, hz, hi]
    · rw [if_neg hi, List.getElem?_eq_none (by omega)]
      rfl
  rw [hmid, ← List.drop_drop, List.take_append_drop, List.take_append_drop]
/-- A slice of numbers among the arguments: a row, for reading alone. -/
theorem open_slice {t e : TypeId} {k : IntKind} {base : Nat} {W : World} {v : Value} {d : DataW H} {p : List MemPlace} (ht : P.underlying t = some (.slice e)) (he : P.underlying e = some (.int k)) (hc : P.cellsOf e = 1)
    (hval : Value.okWide P W .any base t v) (hd : DataW.Trod enc P W 0 (fun _ => true) true t v d p) (hf : W.noneFrozen p) :
    ∃ (b : Blk) (n c z y : Nat) (B : List Int), (∀ t, v = (SV.c (.sl t b 0 n c z)).den) ∧ n ≤ c ∧ c ≤ maxLen ∧ (z = 0 ∨ c = 0) ∧ B.length = c ∧ (∀ x ∈ B, (Lit.int k x).wf = true) ∧ ∀ t, (Cont.cells y [.ints k c B]).sat b (view W (allRo W) t b.n) := by
  obtain ⟨a0, len, cap, rfl⟩ := okWide_slice ht hval
  obtain ⟨fuel, hfu⟩ := hd
  rcases open_ints ht he hc hfu with ⟨hcs, hx⟩ | ⟨a, len', cap', zs, hcs, _, hl, hm, hz, hx, hcell, hwz⟩
  · simp [Value.cells] at hcs
    obtain ⟨rfl, rfl, rfl⟩ := hcs
    exact ⟨0, 0, 0, 1, 0, [], fun _ => rfl, Nat.le_refl _, Nat.zero_le _, .inr rfl, rfl, (fun _ h => by cases h), fun _ => ⟨by simp [Cel.ok], .inl rfl⟩⟩
  · simp [Value.cells] at hcs
    obtain ⟨rfl, rfl, rfl⟩ := hcs
    simp only [Prod.mk.injEq] at hx
    obtain ⟨_, rfl⟩ := hx
    simp only [if_true] at hz
    have hspot : a.spot = none := by
      have h1 := hval
      simp only [Value.okWide, ht, Cell.okWide, Cell.ok] at h1
      exact h1.2.2.2.1
    obtain ⟨blk, off, sp⟩ := a
    dsimp only at hspot
    subst hspot
    by_cases hc0 : cap = 0
    · subst hc0
      have : zs = [] := List.eq_nil_of_length_eq_zero hz
      subst this
      refine ⟨⟨⟨blk, (0, 0), List.replicate off default, []⟩, true⟩, len, 0, 0, 0, [], fun _ => ?_, hl, hm, .inl rfl, rfl, hwz, fun _ => ⟨by simp [Cel.ok], .inl rfl⟩⟩
      simp [SV.den, Cel.one, Cel.vals, baseOf, Blk.at, Blk.n, Blk.lo]
    · have h0 := hcell 0 (by omega)
      rw [add_plain] at h0
      cases hb : W.heap[blk]? with
      | none => simp [World.cell?, hb] at h0
      | some ob =>
        cases ob with
        | cells cs ty fr =>
          have hcs : ∀ i, i < cap → cs.toList[off + i]? = some (.int k (zs.getD i 0)) := fun i hi => by
            have h1 := hcell i (by omega)
            rw [add_plain] at h1
            simpa [World.cell?, hb] using h1
          have hpart := window_ints hz hcs
          have hlt : blk < W.heap.size := (Array.getElem?_eq_some_iff.1 hb).1
          have hlo : off ≤ cs.toList.length := by
            have := (List.getElem?_eq_some_iff.1 (hcs 0 (by omega))).1
            omega
          refine ⟨⟨⟨blk, fr, cs.toList.take off, cs.toList.drop (off + cap)⟩, true⟩, len, cap, 0, ty, zs, fun _ => ?_, hl, hm, .inl rfl, hz, hwz, fun t => ⟨by simp [Cel.ok, hz], .inr ⟨view_some.2 ⟨?_, .inl ⟨rfl, by simp [allRo, Blk.n, hlt]⟩⟩, ?_⟩⟩⟩
          · have hlo2 : off ≤ cs.size := by simpa using hlo
            simp [SV.den, Cel.one, Cel.vals, baseOf, Blk.at, Blk.n, Blk.lo, List.length_take, Nat.min_eq_left hlo2]
          · show W.heap[blk]? = _
            rw [hb]
            simp only [Blk.obj, valsOf_cons, valsOf_nil, List.append_nil, Cel.vals]
            rw [← hpart]
          · intro i hi
            have hi' : i < cap := by simpa [Cel.vals, hz] using hi
            have hfz := hf blk (off + i) (by
              simp only [MemPlace.row]
              rw [List.mem_map]
              exact ⟨i, List.mem_range.2 (by omega), rfl⟩)
            simp only [World.frozen?, hb] at hfz
            have hlo' : (cs.toList.take off).length = off := by rw [List.length_take]; omega
            simp only [Blk.lo, hlo']
            intro hh
            simp [hh.1, hh.2] at hfz
        | _ => simp [World.cell?, hb] at h0

theorem window_vals {L vs : List Value} {off n : Nat} (hz : vs.length = n) (h : ∀ i, i < n → L[off + i]? = vs[i]?) : L = L.take off ++ (vs ++ L.drop (off + n)) := by
  by_cases hn : n = 0
  · subst hn
    have : vs = [] := List.eq_nil_of_length_eq_zero hz
    subst this
    simp
  have hmid : vs = (L.drop off).take n := by
    apply List.ext_getElem?
    intro i
    rw [List.getElem?_take]
    by_cases hi : i < n
    · rw [if_pos hi, List.getElem?_drop, h i hi]
    · rw [if_neg hi, List.getElem?_eq_none (by omega)]
  rw [hmid, ← List.drop_drop, List.take_append_drop, List.take_append_drop]
/-- A slice of texts among the arguments: a row, for reading alone. -/
theorem open_texts {t e : TypeId} {base : Nat} {W : World} {v : Value} {d : DataW H} {p : List MemPlace} (ht : P.underlying t = some (.slice e)) (he : P.underlying e = some .string) (hc : P.cellsOf e = 1)
    (hval : Value.okWide P W .any base t v) (hd : DataW.Trod enc P W 0 (fun _ => true) true t v d p) (hf : W.noneFrozen p) :
    ∃ (b : Blk) (n c z y : Nat) (B : List ByteArray), (∀ t, v = (SV.c (.sl t b 0 n c z)).den) ∧ n ≤ c ∧ c ≤ maxLen ∧ (z = 0 ∨ c = 0) ∧ B.length = c ∧ ∀ t, (Cont.cells y [.strs c B]).sat b (view W (allRo W) t b.n) := by
  obtain ⟨a0, len, cap, rfl⟩ := okWide_slice ht hval
  obtain ⟨fuel, hfu⟩ := hd
  rcases open_strings ht he hc hfu with ⟨hcs, hx⟩ | ⟨a, len', cap', zs, hcs, _, hl, hm, hz, hx, hcell, hwz⟩
  · simp [Value.cells] at hcs
    obtain ⟨rfl, rfl, rfl⟩ := hcs
    exact ⟨0, 0, 0, 1, 0, [], fun _ => rfl, Nat.le_refl _, Nat.zero_le _, .inr rfl, rfl, fun _ => ⟨by simp [Cel.ok], .inl rfl⟩⟩
  · simp [Value.cells] at hcs
    obtain ⟨rfl, rfl, rfl⟩ := hcs
    simp only [Prod.mk.injEq] at hx
    obtain ⟨_, rfl⟩ := hx
    simp only [if_true] at hz
    have hspot : a.spot = none := by
      have h1 := hval
      simp only [Value.okWide, ht, Cell.okWide, Cell.ok] at h1
      exact h1.2.2.2.1
    obtain ⟨blk, off, sp⟩ := a
    dsimp only at hspot
    subst hspot
    by_cases hc0 : cap = 0
    · subst hc0
      have : zs = [] := List.eq_nil_of_length_eq_zero hz
      subst this
      refine ⟨⟨⟨blk, (0, 0), List.replicate off default, []⟩, true⟩, len, 0, 0, 0, [], fun _ => ?_, hl, hm, .inl rfl, rfl, fun _ => ⟨by simp [Cel.ok], .inl rfl⟩⟩
      simp [SV.den, Cel.one, Cel.vals, baseOf, Blk.at, Blk.n, Blk.lo]
    · have h0 := hcell 0 (by omega)
      rw [add_plain] at h0
      cases hb : W.heap[blk]? with
      | none => simp [World.cell?, hb] at h0
      | some ob =>
        cases ob with
        | cells cs ty fr =>
          have hcs : ∀ i, i < cap → cs.toList[off + i]? = some (.string (zs.getD i ByteArray.empty)) := fun i hi => by
            have h1 := hcell i (by omega)
            rw [add_plain] at h1
            simpa [World.cell?, hb] using h1
          have hpart := window_vals (L := cs.toList) (vs := zs.map .string) (off := off) (n := cap) (by simp [hz]) (fun i hi => by
            rw [hcs i hi, List.getElem?_map, List.getD_eq_getElem?_getD]
            simp [hz, hi])
          have hlt : blk < W.heap.size := (Array.getElem?_eq_some_iff.1 hb).1
          have hlo : off ≤ cs.toList.length := by
            have := (List.getElem?_eq_some_iff.1 (hcs 0 (by omega))).1
            omega
          refine ⟨⟨⟨blk, fr, cs.toList.take off, cs.toList.drop (off + cap)⟩, true⟩, len, cap, 0, ty, zs, fun _ => ?_, hl, hm, .inl rfl, hz, fun t => ⟨by simp [Cel.ok, hz], .inr ⟨view_some.2 ⟨?_, .inl ⟨rfl, by simp [allRo, Blk.n, hlt]⟩⟩, ?_⟩⟩⟩
          · have hlo2 : off ≤ cs.size := by simpa using hlo
            simp [SV.den, Cel.one, Cel.vals, baseOf, Blk.at, Blk.n, Blk.lo, List.length_take, Nat.min_eq_left hlo2]
          · show W.heap[blk]? = _
            rw [hb]
            simp only [Blk.obj, valsOf_cons, valsOf_nil, List.append_nil, Cel.vals]
            rw [← hpart]
          · intro i hi
            have hi' : i < cap := by simpa [Cel.vals, hz] using hi
            have hfz := hf blk (off + i) (by
              simp only [MemPlace.row]
              rw [List.mem_map]
              exact ⟨i, List.mem_range.2 (by omega), rfl⟩)
            simp only [World.frozen?, hb] at hfz
            have hlo' : (cs.toList.take off).length = off := by rw [List.length_take]; omega
            simp only [Blk.lo, hlo']
            intro hh
            simp [hh.1, hh.2] at hfz
        | _ => simp [World.cell?, hb] at h0

end Ab
end Go
