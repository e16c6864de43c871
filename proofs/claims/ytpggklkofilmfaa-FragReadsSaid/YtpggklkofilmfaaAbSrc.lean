/- What a slice, or a text, holds: numbers. -/
import Derived.Test.YtpggklkofilmfaaAbStill
import Derived.Laws.Append
import Derived.Lib.AppendStr
import Derived.Laws.BytesString
set_option linter.unusedSimpArgs false
set_option linter.unnecessarySimpa false
set_option linter.unusedVariables false
namespace Go
namespace Ab
variable {P : Program}

/-! ### What a source holds -/
theorem strInts_length (x : ByteArray) : (strInts x).length = x.size := by simp [strInts]

theorem srcInts_spec {h : Hp} {o : Nat → Option Ow} {w : World} (hw : Own h o w) {k : IntKind} {Y : SV} {p : C} {n : Nat} {L : List Int} (hs : srcInts h k Y = some (p, n, L)) (hp : p.holds) :
    L.length = n ∧ (Builtin.lenOf Y.den).run P w = .ok n w ∧ ∀ m, m ≤ n → (Builtin.firstCells 1 m Y.den).run P w = .ok ((L.take m).map (Value.int k)).toArray w := by
  unfold srcInts at hs
  split at hs
  · rename_i t b off nn cc z
    split at hs
    · rename_i b' ty k' m L' hg
      split at hs
      · rename_i hk
        cases kindEq_true hk
        simp only [Option.some.injEq, Prod.mk.injEq] at hs
        obtain ⟨rfl, rfl, rfl⟩ := hs
        obtain ⟨rfl, h1, h2⟩ := hp
        have hok := hw.oks hg
        have hL : L'.length = m := hok _ (List.mem_singleton.2 rfl)
        refine ⟨by simp; omega, rfl, fun j hj => ?_⟩
        rcases h2 with rfl | rfl
        · have hden : (SV.c (.sl t b off nn cc 0)).den = .slice (some (b.at off)) nn cc := rfl
          rw [hden]
          refine run_firstCells_some w 1 j (b.at off) nn cc _ (by simp; omega) fun i v hv => ?_
          rw [Blk.add_at]
          refine hw.cell hg ?_
          simp only [valsOf_cons, valsOf_nil, List.append_nil, Cel.vals]
          rw [List.getElem?_map, List.getElem?_take] at hv
          split at hv
          · rw [List.getElem?_take] at hv
            split at hv
            · rw [List.getElem?_drop] at hv
              rw [List.getElem?_map]; exact hv
            · simp at hv
          · simp at hv
        · have hj : j = 0 := by omega
          subst hj
          cases z with
          | zero =>
            have hden : (SV.c (.sl t b off 0 cc 0)).den = .slice (some (b.at off)) 0 cc := rfl
            rw [hden]
            exact run_firstCells_some w 1 0 (b.at off) 0 cc _ (by simp) fun i v hv => by simp at hv
          | succ z =>
            have hden : (SV.c (.sl t b off 0 cc (z + 1))).den = .slice none 0 cc := rfl
            rw [hden, run_firstCells_none]
            simp
      · cases hs
    · rename_i b' hg
      simp only [Option.some.injEq, Prod.mk.injEq] at hs
      obtain ⟨rfl, rfl, rfl⟩ := hs
      have hp : nn = 0 := hp
      subst hp
      refine ⟨rfl, rfl, fun j hj => ?_⟩
      have hj : j = 0 := by omega
      subst hj
      cases z with
      | zero =>
        have hden : (SV.c (.sl t b off 0 cc 0)).den = .slice (some (b.at off)) 0 cc := rfl
        rw [hden]
        exact run_firstCells_some w 1 0 (b.at off) 0 cc _ (by simp) fun i v hv => by simp at hv
      | succ z =>
        have hden : (SV.c (.sl t b off 0 cc (z + 1))).den = .slice none 0 cc := rfl
        rw [hden, run_firstCells_none]
        simp
    · rename_i b' ty l hni hg
      split at hs
      · rename_i q k' m L' hrd
        split at hs
        · rename_i hk
          simp only [Bool.and_eq_true] at hk
          cases kindEq_true hk.1
          cases beq_true hk.2
          simp only [Option.some.injEq, Prod.mk.injEq] at hs
          obtain ⟨rfl, rfl, rfl⟩ := hs
          obtain ⟨hb, hq⟩ := holds_and hp
          have hb : b = b' := hb
          subst hb
          obtain ⟨r1, r2, r3⟩ := rdN_spec _ _ _ _ _ hrd hq (hw.oks hg)
          have hL : L'.length = nn := r3 _ (List.mem_singleton.2 rfl)
          simp only [valsOf_cons, valsOf_nil, List.append_nil, Cel.vals] at r1
          refine ⟨hL, rfl, fun j hj => ?_⟩
          have hden : (SV.c (.sl t b off nn cc 0)).den = .slice (some (b.at off)) nn cc := rfl
          rw [hden]
          refine run_firstCells_some w 1 j (b.at off) nn cc _ (by simp; omega) fun i v hv => ?_
          rw [Blk.add_at]
          refine hw.cell hg ?_
          rw [List.map_take, r1, List.take_take] at hv
          rw [List.getElem?_take] at hv
          split at hv
          · rw [List.getElem?_drop] at hv; exact hv
          · simp at hv
        · cases hs
      · cases hs
    · cases hs
  · rename_i nn cc
    simp only [Option.some.injEq, Prod.mk.injEq] at hs
    obtain ⟨rfl, rfl, rfl⟩ := hs
    have hp : nn = 0 := hp
    subst hp
    refine ⟨rfl, rfl, fun j hj => ?_⟩
    have hden : (SV.c (.v (.slice none 0 cc))).den = .slice none 0 cc := rfl
    rw [hden, run_firstCells_none]
    simp
  · rename_i x
    split at hs
    · simp only [Option.some.injEq, Prod.mk.injEq] at hs
      obtain ⟨rfl, rfl, rfl⟩ := hs
      refine ⟨strInts_length x, rfl, fun j hj => ?_⟩
      have hden : (SV.c (.v (.string x))).den = .string x := rfl
      rw [hden]
      simp only [Builtin.firstCells, Sem.run_pure]
      congr 1
      apply Array.ext'
      simp [strInts, ByteArray.extract, ByteArray.copySlice, List.map_take, Function.comp_def]
    · cases hs
  · cases hs


theorem foldl_toBA : ∀ (l : List Int) (s : ByteArray), l.foldl (fun r n => r.push (UInt8.ofNat n.toNat)) s = ⟨(s.data.toList ++ l.map fun x => UInt8.ofNat x.toNat).toArray⟩
  | [], s => by simp
  | x :: l, s => by
    rw [List.foldl_cons, foldl_toBA l]
    simp [ByteArray.push]
theorem srcInts_string {h : Hp} {o : Nat → Option Ow} {w : World} (hw : Own h o w) {Y : SV} {p : C} {n : Nat} {L : List Int} (hs : srcInts h .u8 Y = some (p, n, L)) (hp : p.holds) {b : Option Addr} {n' c : Nat} (hY : Y.den = .slice b n' c) :
    (Conv.bytesToString Y.den).run P w = .ok (.string (toBA L)) w := by
  obtain ⟨h1, h2, h3⟩ := srcInts_spec (P := P) hw hs hp
  have h3 := h3 n (Nat.le_refl _)
  rw [List.take_of_length_le (by omega)] at h3
  rw [hY] at h2 h3 ⊢
  have hn : n' = n := by
    simp [Builtin.lenOf] at h2
    exact h2
  subst hn
  cases b with
  | none =>
    have : L = [] := by
      rw [run_firstCells_none] at h3
      injection h3 with h3 _
      cases L with
      | nil => rfl
      | cons x r => simp at h3
    subst this
    simp [Conv.bytesToString, toBA]
    rfl
  | some a =>
    have hl : (loadCells a n').run P w = .ok (L.map (Value.int .u8)).toArray w := by
      simpa [Builtin.firstCells] using h3
    rw [run_bytesToString w a n' c L hl, foldl_toBA]
    simp [toBA]

end Ab
end Go
