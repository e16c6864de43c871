/- FragCuts holds, for every input. -/
import Derived.Test.YtpggklkofilmfaaFrag18
import Derived.Test.YtpggklkofilmfaaLaw3
set_option linter.unusedSimpArgs false
set_option linter.unusedVariables false
namespace Go.Proofs.Ytpggklkofilmfaa
open Go.ChangeShapes Go.WideShapes Go.ChangeAt Go.RowKit Go.Ab

theorem int_of_cell {P : Program} {W : World} {r : Reach} {base : Nat} {u : TypeId} {k : IntKind} {v : Value} (hu : P.underlying u = some (.int k)) (h : Cell.okWide P W r base u v) : ∃ a, v = .int k a ∧ k.has a := by
  simp only [Cell.okWide, hu] at h
  cases v <;> simp_all [Cell.ok]
theorem bool_of_cell {P : Program} {W : World} {r : Reach} {base : Nat} {u : TypeId} {v : Value} (hu : P.underlying u = some .bool) (h : Cell.okWide P W r base u v) : ∃ a, v = .bool a := by
  simp only [Cell.okWide, hu] at h
  cases v <;> simp_all [Cell.ok]
theorem ints_of_cells {k : IntKind} : ∀ {vs : List Value}, (∀ v ∈ vs, ∃ a, v = .int k a ∧ k.has a) → ∃ zs : List Int, vs = zs.map (.int k) ∧ zs.length = vs.length ∧ ∀ z ∈ zs, k.has z
  | [], _ => ⟨[], rfl, rfl, fun _ h => by cases h⟩
  | v :: vs, h => by
    obtain ⟨a, rfl, ha⟩ := h v (by simp)
    obtain ⟨zs, rfl, hl, hz⟩ := ints_of_cells (vs := vs) fun v hv => h v (by simp [hv])
    exact ⟨a :: zs, rfl, by simp, fun z hz' => by
      simp only [List.mem_cons] at hz'
      rcases hz' with rfl | hz'
      · exact ha
      · exact hz z hz'⟩
theorem Try.cells36 : Try.prog.cellsOf 36 = 68 := by kernel_rfl
def ts36 : List TypeId := List.replicate 32 5 ++ ([3, 4, 3] ++ (List.replicate 32 5 ++ [34]))
theorem Try.types36 : Try.prog.cellTypes Try.prog.depth 36 = some ts36 := by kernel_rfl
set_option maxRecDepth 100000 in
theorem open_frag {W : World} {base : Nat} {v : Value} (hval : Value.okWide Try.prog W .any base 36 v) : ∃ f : FV, v = (SV.agg f.cels).den ∧ f.ok := by
  simp only [Value.okWide, Try.underlying36] at hval
  obtain ⟨cs, rfl, hsz, ts, hts, _, hcell⟩ := hval
  rw [Try.types36] at hts
  cases hts
  rw [Try.cells36] at hsz
  have hc : ∀ i (h : i < cs.toList.length) u, ts36[i]? = some u → Cell.okWide Try.prog W .any base u cs.toList[i] := fun i h u hu => by
    have h' : i < 68 := by rw [Array.length_toList] at h; omega
    obtain ⟨u', h1, h2⟩ := hcell i cs[i] (by simp)
    rw [show ts36.length = 68 from rfl, Nat.mod_eq_of_lt h', hu] at h1
    cases h1
    simpa using h2
  have hL : cs.toList.length = 68 := by rw [Array.length_toList]; exact hsz
  have hcs : cs = cs.toList.toArray := rfl
  rw [hcs]
  generalize cs.toList = L at hc hL
  have d1 : L.drop 32 = L[32] :: L.drop 33 := List.drop_eq_getElem_cons (by omega)
  have d2 : L.drop 33 = L[33] :: L.drop 34 := List.drop_eq_getElem_cons (by omega)
  have d3 : L.drop 34 = L[34] :: L.drop 35 := List.drop_eq_getElem_cons (by omega)
  have d4 : L.drop 67 = L[67] :: L.drop 68 := List.drop_eq_getElem_cons (by omega)
  have d5 : L.drop 68 = [] := List.drop_eq_nil_of_le (by omega)
  have d6 : L.drop 35 = (L.drop 35).take 32 ++ L.drop 67 := by
    rw [show L.drop 67 = (L.drop 35).drop 32 by rw [List.drop_drop], List.take_append_drop]
  have hsplit : L = L.take 32 ++ (L[32] :: L[33] :: L[34] :: ((L.drop 35).take 32 ++ [L[67]])) := by
    rw [← d5, ← d4, ← d6, ← d3, ← d2, ← d1, List.take_append_drop]
  obtain ⟨p, hp, wp⟩ := int_of_cell Try.underlying3 (hc 32 (by omega) 3 rfl)
  obtain ⟨b, hb⟩ := bool_of_cell Try.underlying4 (hc 33 (by omega) 4 rfl)
  obtain ⟨s, hs, ws⟩ := int_of_cell Try.underlying3 (hc 34 (by omega) 3 rfl)
  obtain ⟨t, ht, wt⟩ := int_of_cell Try.underlying34 (hc 67 (by omega) 34 rfl)
  obtain ⟨ks, hk1, hk2, hk3⟩ := ints_of_cells (k := .u8) (vs := L.take 32) fun v hv => by
    obtain ⟨i, hi, rfl⟩ := List.mem_iff_getElem.1 hv
    rw [List.length_take] at hi
    rw [List.getElem_take]
    refine int_of_cell Try.underlying5 (hc i (by omega) 5 ?_)
    unfold ts36
    rw [List.getElem?_append_left (by simp; omega), List.getElem?_replicate_of_lt (by omega)]
  obtain ⟨ms, hm1, hm2, hm3⟩ := ints_of_cells (k := .u8) (vs := (L.drop 35).take 32) fun v hv => by
    obtain ⟨i, hi, rfl⟩ := List.mem_iff_getElem.1 hv
    rw [List.length_take, List.length_drop] at hi
    rw [List.getElem_take, List.getElem_drop]
    refine int_of_cell Try.underlying5 (hc (35 + i) (by omega) 5 ?_)
    unfold ts36
    rw [List.getElem?_append_right (by simp; omega), List.getElem?_append_right (by simp; omega), List.getElem?_append_left (by simp; omega), List.getElem?_replicate_of_lt (by simp; omega)]
  refine ⟨⟨ks, p, b, s, ms, t⟩, ?_, ⟨?_, ?_⟩, ?_, ?_, ?_, ?_⟩
  · show Value.agg L.toArray = .agg (valsOf (FV.cels ⟨ks, p, b, s, ms, t⟩)).toArray
    rw [hsplit, hp, hb, hs, ht, hk1, hm1]
    rfl
  · rw [hk2, List.length_take]; omega
  · rw [hm2, List.length_take, List.length_drop]; omega
  · intro x hx; have := hk3 x hx; simpa [IntKind.has, IntKind.min, IntKind.max, IntKind.signed, IntKind.bits] using this
  · intro x hx; have := hm3 x hx; simpa [IntKind.has, IntKind.min, IntKind.max, IntKind.signed, IntKind.bits] using this
  · have : 0 ≤ t ∧ t ≤ 18446744073709551615 := by simpa [IntKind.has, IntKind.min, IntKind.max, IntKind.signed, IntKind.bits] using wt
    show 0 ≤ t ∧ t < 18446744073709551616
    omega
  · simpa [IntKind.has, IntKind.min, IntKind.max, IntKind.signed, IntKind.bits] using wp
set_option maxRecDepth 100000 in
theorem fragCuts_lifted (os : Os) (started : os.Started) (H : Type) (enc : TypeId × Value → H) :
    ReturnsInHanded {} Try.checked os 12 .any (Rows.fragCutsSpec.pre6 enc Try.prog Try.f12 Rows.fragCutsRow.domain false) (Rows.fragCutsSpec.post enc Try.prog Try.f12 false true false false) := by
  refine returnsInHanded_of_change (C := Try.checked) Try.own started (by kernel_rfl) Try.func12
    (ChangeSpec.witness6 (enc := enc) (C := Try.checked) false ⟨#[], #[.agg (valsOf FV.zero.cels).toArray, .slice none 0 0, .int .i64 0], []⟩ 8 (by kernel_rfl) (by kernel_rfl) (by kernel_rfl) (by kernel_rfl)) ?_
  intro W base args ds gs before hval0 hW hcnd _
  have hval : ∀ (j : Nat) t v, Try.f12.params[j]? = some t → args[j]? = some v → Value.okWide Try.prog W .any base t v := hval0
  have hW' := hW
  obtain ⟨p, q, hA0, hV, rfl, hfz, hnd⟩ := hW
  have hA : DataW.TrodAll enc Try.prog W 0 (fun _ => true) true Try.f12.params.toList args.toList ds p := hA0
  rw [Try.params12] at hA hval
  obtain ⟨v0, v1, v2, d0, d1, d2, p0, p1, p2, rfl, rfl, rfl, h0, h1, h2⟩ := trodAll_three hA
  obtain ⟨rfl, rfl⟩ := trodVars_none hV
  obtain ⟨f, hv0, hf⟩ := open_frag (hval 0 36 v0 rfl rfl)
  obtain ⟨b, n, c, z, y, B, hv1, hn, hc, hz, hB, hwf, hs⟩ := open_slice Try.underlying22 Try.underlying5 Try.cells5 (hval 1 22 v1 rfl rfl) h1 (nf_right (nf_left (nf_left hfz)))
  obtain ⟨a, rfl, rfl, rfl, wa⟩ := open_int Try.underlying3 (hval 2 3 v2 rfl rfl) h2
  clear hA0 hval0
  have hcall := fn12.calls (f, ⟨b, 0, n, c, z, c, y, B⟩, a) ⟨hf, ⟨Nat.le_of_eq (Nat.zero_add c), hn, hz, hB⟩, fun x hx => u8_of_wf (hwf x (List.mem_of_mem_drop (List.mem_of_mem_take hx)))⟩
    (fun v hv => by
      simp [spCuts, GS.arg] at hv
      rcases hv with rfl | rfl | rfl
      · intro c hc
        simp [FV.cels] at hc
        rcases hc with rfl | rfl | rfl | rfl | rfl | rfl
        · exact hf.1.1
        · rfl
        · rfl
        · rfl
        · exact hf.1.2
        · rfl
      · trivial
      · trivial) W _ (own_cons (own_nil W) 1 hs)
  rw [show ((spCuts.args (f, ⟨b, 0, n, c, z, c, y, B⟩, a)).map SV.den).toArray = #[v0, v1, .int .i64 a] by rw [hv0, hv1 1]; rfl] at hcall
  refine hcall.mono fun e W' ⟨r, o', _, _, he, _, hfr⟩ => ?_
  subst he
  exact ⟨_, rfl, post_true Try.laidOut (by rw [Try.params12]; decide +kernel) rfl rfl rfl Try.underlying4 hW' (below_of_fr hfr (allRo_or W))⟩

theorem fragCuts_holds : Rows.FragCutsSaid :=
  OpenClaim.holds_of_wide 12 Try.f12 rfl rfl rfl rfl rfl rfl rfl ⟨rfl, rfl, rfl, rfl, rfl⟩ rfl rfl rfl rfl rfl (by kernel_rfl) Try.func12 (by kernel_rfl)
    (of_decide_eq_true (by kernel_rfl)) (by unfold Func.isWrapper; first | (rw [if_pos (by decide +kernel)]; kernel_rfl) | (rw [if_neg (by decide +kernel)]; exact ⟨rfl, rfl⟩))
    (fun os started H enc _ => fragCuts_lifted os started H enc)

end Go.Proofs.Ytpggklkofilmfaa
