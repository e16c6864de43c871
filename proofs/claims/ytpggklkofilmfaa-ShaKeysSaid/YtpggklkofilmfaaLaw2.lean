/- ShaKeys, ShaAgain hold, for every input. -/
import Derived.Test.YtpggklkofilmfaaSha13
import Derived.Test.YtpggklkofilmfaaLaw1
set_option linter.unusedSimpArgs false
set_option linter.unusedVariables false
namespace Go.Proofs.Ytpggklkofilmfaa
open Go.ChangeShapes Go.WideShapes Go.ChangeAt Go.RowKit Go.Ab

theorem Try.cells9 : Try.prog.cellsOf 9 = 1 := by kernel_rfl

set_option maxRecDepth 100000 in
theorem shaKeys_lifted (os : Os) (started : os.Started) (H : Type) (enc : TypeId × Value → H) :
    ReturnsInHanded {} Try.checked os 4 .any (Rows.shaKeysSpec.pre6 enc Try.prog Try.f4 Rows.shaKeysRow.domain false) (Rows.shaKeysSpec.post enc Try.prog Try.f4 false true false false) := by
  refine returnsInHanded_of_change (C := Try.checked) Try.own started (by kernel_rfl) Try.func4
    (ChangeSpec.witness6 (enc := enc) (C := Try.checked) false ⟨#[], #[.slice none 0 0], []⟩ 8 (by kernel_rfl) (by kernel_rfl) (by kernel_rfl) (by kernel_rfl)) ?_
  intro W base args ds gs before hval0 hW hcnd _
  have hval : ∀ (j : Nat) t v, Try.f4.params[j]? = some t → args[j]? = some v → Value.okWide Try.prog W .any base t v := hval0
  have hW' := hW
  obtain ⟨p, q, hA0, hV, rfl, hfz, hnd⟩ := hW
  have hA : DataW.TrodAll enc Try.prog W 0 (fun _ => true) true Try.f4.params.toList args.toList ds p := hA0
  rw [Try.params4] at hA hval
  obtain ⟨v0, d0, rfl, rfl, h0⟩ := trodAll_one hA
  obtain ⟨rfl, rfl⟩ := trodVars_none hV
  obtain ⟨b, n, c, z, y, B, hv0, hn, hc, hz, hB, hs⟩ := open_texts Try.underlying29 Try.underlying9 Try.cells9 (hval 0 29 v0 rfl rfl) h0 (nf_left hfz)
  clear hA0 hval0
  have hcall := fn4.calls ⟨b, 0, n, c, z, c, y, B⟩ ⟨Nat.le_of_eq (Nat.zero_add c), hn, hz, hB⟩ (fun v hv => by simp [sp4, GT.arg] at hv; subst hv; trivial) W _ (own_cons (own_nil W) 0 hs)
  rw [show ((sp4.args ⟨b, 0, n, c, z, c, y, B⟩).map SV.den).toArray = #[v0] by rw [hv0 0]; rfl] at hcall
  refine hcall.mono fun e W' ⟨r, o', _, _, he, _, hfr⟩ => ?_
  subst he
  exact ⟨_, rfl, post_true Try.laidOut (by rw [Try.params4]; decide +kernel) rfl rfl rfl Try.underlying4 hW' (below_of_fr hfr (allRo_or W))⟩

theorem shaKeys_holds : Rows.ShaKeysSaid :=
  OpenClaim.holds_of_wide 4 Try.f4 rfl rfl rfl rfl rfl rfl rfl ⟨rfl, rfl, rfl, rfl, rfl⟩ rfl rfl rfl rfl rfl (by kernel_rfl) Try.func4 (by kernel_rfl)
    (of_decide_eq_true (by kernel_rfl)) (by unfold Func.isWrapper; first | (rw [if_pos (by decide +kernel)]; kernel_rfl) | (rw [if_neg (by decide +kernel)]; exact ⟨rfl, rfl⟩))
    (fun os started H enc _ => shaKeys_lifted os started H enc)

set_option maxRecDepth 100000 in
theorem shaAgain_lifted (os : Os) (started : os.Started) (H : Type) (enc : TypeId × Value → H) :
    ReturnsInHanded {} Try.checked os 5 .any (Rows.shaAgainSpec.pre6 enc Try.prog Try.f5 Rows.shaAgainRow.domain false) (Rows.shaAgainSpec.post enc Try.prog Try.f5 false true false false) := by
  refine returnsInHanded_of_change (C := Try.checked) Try.own started (by kernel_rfl) Try.func5
    (ChangeSpec.witness6 (enc := enc) (C := Try.checked) false ⟨#[], #[.slice none 0 0, .slice none 0 0], []⟩ 8 (by kernel_rfl) (by kernel_rfl) (by kernel_rfl) (by kernel_rfl)) ?_
  intro W base args ds gs before hval0 hW hcnd _
  have hval : ∀ (j : Nat) t v, Try.f5.params[j]? = some t → args[j]? = some v → Value.okWide Try.prog W .any base t v := hval0
  have hW' := hW
  obtain ⟨p, q, hA0, hV, rfl, hfz, hnd⟩ := hW
  have hA : DataW.TrodAll enc Try.prog W 0 (fun _ => true) true Try.f5.params.toList args.toList ds p := hA0
  rw [Try.params5] at hA hval
  obtain ⟨v0, v1, d0, d1, p0, p1, rfl, rfl, rfl, h0, h1⟩ := trodAll_two hA
  obtain ⟨rfl, rfl⟩ := trodVars_none hV
  obtain ⟨b, n, c, z, y, B, hv0, hn, hc, hz, hB, hwf, hs⟩ := open_slice Try.underlying22 Try.underlying5 Try.cells5 (hval 0 22 v0 rfl rfl) h0 (nf_left (nf_left hfz))
  obtain ⟨b', n', c', z', y', B', hv1, hn', hc', hz', hB', hwf', hs'⟩ := open_slice Try.underlying22 Try.underlying5 Try.cells5 (hval 1 22 v1 rfl rfl) h1 (nf_right (nf_left hfz))
  clear hA0 hval0
  have hcall := fn5.calls (⟨b, 0, n, c, z, c, y, B⟩, ⟨b', 0, n', c', z', c', y', B'⟩) ⟨⟨⟨Nat.le_of_eq (Nat.zero_add c), hn, hz, hB⟩, ⟨Nat.le_of_eq (Nat.zero_add c'), hn', hz', hB'⟩⟩,
    fun x hx => u8_of_wf (hwf x (List.mem_of_mem_drop (List.mem_of_mem_take hx))), fun x hx => u8_of_wf (hwf' x (List.mem_of_mem_drop (List.mem_of_mem_take hx)))⟩
    (fun v hv => by simp [sp5, GS.arg] at hv; rcases hv with rfl | rfl <;> trivial) W _ (own_cons (own_cons (own_nil W) 1 hs') 0 hs)
  rw [show ((sp5.args (⟨b, 0, n, c, z, c, y, B⟩, ⟨b', 0, n', c', z', c', y', B'⟩)).map SV.den).toArray = #[v0, v1] by rw [hv0 0, hv1 1]; rfl] at hcall
  refine hcall.mono fun e W' ⟨r, o', _, _, he, _, hfr⟩ => ?_
  subst he
  exact ⟨_, rfl, post_true Try.laidOut (by rw [Try.params5]; decide +kernel) rfl rfl rfl Try.underlying4 hW' (below_of_fr hfr (allRo_or W))⟩

theorem shaAgain_holds : Rows.ShaAgainSaid :=
  OpenClaim.holds_of_wide 5 Try.f5 rfl rfl rfl rfl rfl rfl rfl ⟨rfl, rfl, rfl, rfl, rfl⟩ rfl rfl rfl rfl rfl (by kernel_rfl) Try.func5 (by kernel_rfl)
    (of_decide_eq_true (by kernel_rfl)) (by unfold Func.isWrapper; first | (rw [if_pos (by decide +kernel)]; kernel_rfl) | (rw [if_neg (by decide +kernel)]; exact ⟨rfl, rfl⟩))
    (fun os started H enc _ => shaAgain_lifted os started H enc)

end Go.Proofs.Ytpggklkofilmfaa
