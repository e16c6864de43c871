/- FragBits holds, for every input. -/
import Derived.Test.YtpggklkofilmfaaFrag19
import Derived.Test.YtpggklkofilmfaaLaw4
set_option linter.unusedSimpArgs false
set_option linter.unusedVariables false
namespace Go.Proofs.Ytpggklkofilmfaa
open Go.ChangeShapes Go.WideShapes Go.ChangeAt Go.RowKit Go.Ab

set_option maxRecDepth 100000 in
theorem fragBits_lifted (os : Os) (started : os.Started) (H : Type) (enc : TypeId × Value → H) :
    ReturnsInHanded {} Try.checked os 11 .any (Rows.fragBitsSpec.pre6 enc Try.prog Try.f11 Rows.fragBitsRow.domain false) (Rows.fragBitsSpec.post enc Try.prog Try.f11 false true false false) := by
  refine returnsInHanded_of_change (C := Try.checked) Try.own started (by kernel_rfl) Try.func11
    (ChangeSpec.witness6 (enc := enc) (C := Try.checked) false ⟨#[], #[.agg (valsOf FV.zero.cels).toArray, .slice none 0 0, .int .i64 0], []⟩ 8 (by kernel_rfl) (by kernel_rfl) (by kernel_rfl) (by kernel_rfl)) ?_
  intro W base args ds gs before hval0 hW hcnd _
  have hval : ∀ (j : Nat) t v, Try.f11.params[j]? = some t → args[j]? = some v → Value.okWide Try.prog W .any base t v := hval0
  have hW' := hW
  obtain ⟨p, q, hA0, hV, rfl, hfz, hnd⟩ := hW
  have hA : DataW.TrodAll enc Try.prog W 0 (fun _ => true) true Try.f11.params.toList args.toList ds p := hA0
  rw [Try.params11] at hA hval
  obtain ⟨v0, v1, v2, d0, d1, d2, p0, p1, p2, rfl, rfl, rfl, h0, h1, h2⟩ := trodAll_three hA
  obtain ⟨rfl, rfl⟩ := trodVars_none hV
  obtain ⟨f, hv0, hf⟩ := open_frag (hval 0 36 v0 rfl rfl)
  obtain ⟨b, n, c, z, y, B, hv1, hn, hc, hz, hB, hwf, hs⟩ := open_slice Try.underlying22 Try.underlying5 Try.cells5 (hval 1 22 v1 rfl rfl) h1 (nf_right (nf_left (nf_left hfz)))
  obtain ⟨a, rfl, rfl, rfl, wa⟩ := open_int Try.underlying3 (hval 2 3 v2 rfl rfl) h2
  clear hA0 hval0
  have hcall := fn11.calls (f, ⟨b, 0, n, c, z, c, y, B⟩, a) ⟨hf, ⟨Nat.le_of_eq (Nat.zero_add c), hn, hz, hB⟩, fun x hx => u8_of_wf (hwf x (List.mem_of_mem_drop (List.mem_of_mem_take hx)))⟩
    (fun v hv => by
      simp [spCuts, GS.arg] at hv
      rcases hv with rfl | rfl | rfl
      · intro c hc
        simp [FV.cels] at hc
        rcases hc with rfl | rfl | rfl | rfl | rfl | rfl
        · exact hf.1.1
        · rfl
        · rfl
        · rfl
        · exact hf.1.2
        · rfl
      · trivial
      · trivial) W _ (own_cons (own_nil W) 1 hs)
  rw [show ((spCuts.args (f, ⟨b, 0, n, c, z, c, y, B⟩, a)).map SV.den).toArray = #[v0, v1, .int .i64 a] by rw [hv0, hv1 1]; rfl] at hcall
  refine hcall.mono fun e W' ⟨r, o', _, _, he, _, hfr⟩ => ?_
  subst he
  exact ⟨_, rfl, post_true Try.laidOut (by rw [Try.params11]; decide +kernel) rfl rfl rfl Try.underlying4 hW' (below_of_fr hfr (allRo_or W))⟩

theorem fragBits_holds : Rows.FragBitsSaid :=
  OpenClaim.holds_of_wide 11 Try.f11 rfl rfl rfl rfl rfl rfl rfl ⟨rfl, rfl, rfl, rfl, rfl⟩ rfl rfl rfl rfl rfl (by kernel_rfl) Try.func11 (by kernel_rfl)
    (of_decide_eq_true (by kernel_rfl)) (by unfold Func.isWrapper; first | (rw [if_pos (by decide +kernel)]; kernel_rfl) | (rw [if_neg (by decide +kernel)]; exact ⟨rfl, rfl⟩))
    (fun os started H enc _ => fragBits_lifted os started H enc)

end Go.Proofs.Ytpggklkofilmfaa
