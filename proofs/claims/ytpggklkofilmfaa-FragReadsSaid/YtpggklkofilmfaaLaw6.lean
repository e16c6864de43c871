/- FragReads holds, for every input. -/
import Derived.Test.YtpggklkofilmfaaFrag21
import Derived.Test.YtpggklkofilmfaaLaw4
set_option linter.unusedSimpArgs false
set_option linter.unusedVariables false
namespace Go.Proofs.Ytpggklkofilmfaa
open Go.ChangeShapes Go.WideShapes Go.ChangeAt Go.RowKit Go.Ab

theorem u16_of_wf {a : Int} (h : (Lit.int .u16 a).wf = true) : 0 ≤ a ∧ a ≤ 65535 := by
  simpa [Lit.wf, IntKind.min, IntKind.max, IntKind.signed, IntKind.bits] using h
theorem FV.argOk {f : FV} (hf : f.ok) : (SV.agg f.cels).ok := by
  intro c hc
  simp [FV.cels] at hc
  rcases hc with rfl | rfl | rfl | rfl | rfl | rfl
  · exact hf.1.1
  · rfl
  · rfl
  · rfl
  · exact hf.1.2
  · rfl
set_option maxRecDepth 100000 in
theorem fragReads_lifted (os : Os) (started : os.Started) (H : Type) (enc : TypeId × Value → H) :
    ReturnsInHanded {} Try.checked os 8 .any (Rows.fragReadsSpec.pre6 enc Try.prog Try.f8 Rows.fragReadsRow.domain false) (Rows.fragReadsSpec.post enc Try.prog Try.f8 false true false false) := by
  refine returnsInHanded_of_change (C := Try.checked) Try.own started (by kernel_rfl) Try.func8
    (ChangeSpec.witness6 (enc := enc) (C := Try.checked) false ⟨#[], #[.agg (valsOf FV.zero.cels).toArray, .slice none 0 0, .slice none 0 0, .int .i64 0, .int .u8 0, .int .u16 0], []⟩ 8 (by kernel_rfl) (by kernel_rfl) (by kernel_rfl) (by kernel_rfl)) ?_
  intro W base args ds gs before hval0 hW hcnd _
  have hval : ∀ (j : Nat) t v, Try.f8.params[j]? = some t → args[j]? = some v → Value.okWide Try.prog W .any base t v := hval0
  have hW' := hW
  obtain ⟨p, q, hA0, hV, rfl, hfz, hnd⟩ := hW
  have hA : DataW.TrodAll enc Try.prog W 0 (fun _ => true) true Try.f8.params.toList args.toList ds p := hA0
  rw [Try.params8] at hA hval
  obtain ⟨v0, vs0, d0, ds0, p0, q0, e0, rfl, rfl, h0, hA⟩ := trodAll_cons hA
  obtain ⟨v1, vs1, d1, ds1, p1, q1, rfl, rfl, rfl, h1, hA⟩ := trodAll_cons hA
  obtain ⟨v2, vs2, d2, ds2, p2, q2, rfl, rfl, rfl, h2, hA⟩ := trodAll_cons hA
  obtain ⟨v3, vs3, d3, ds3, p3, q3, rfl, rfl, rfl, h3, hA⟩ := trodAll_cons hA
  obtain ⟨v4, vs4, d4, ds4, p4, q4, rfl, rfl, rfl, h4, hA⟩ := trodAll_cons hA
  obtain ⟨v5, vs5, d5, ds5, p5, q5, rfl, rfl, rfl, h5, hA⟩ := trodAll_cons hA
  obtain ⟨rfl, rfl, rfl⟩ := trodAll_nil hA
  have hargs : args = #[v0, v1, v2, v3, v4, v5] := Array.ext' e0
  subst hargs
  obtain ⟨rfl, rfl⟩ := trodVars_none hV
  obtain ⟨f, hv0, hf⟩ := open_frag (hval 0 36 v0 rfl rfl)
  obtain ⟨b, n, c, z, y, B, hv1, hn, hc, hz, hB, hwf, hs⟩ := open_slice Try.underlying22 Try.underlying5 Try.cells5 (hval 1 22 v1 rfl rfl) h1 (nf_left (nf_right (nf_left hfz)))
  obtain ⟨b', n', c', z', y', B', hv2, hn', hc', hz', hB', hwf', hs'⟩ := open_slice Try.underlying22 Try.underlying5 Try.cells5 (hval 2 22 v2 rfl rfl) h2 (nf_left (nf_right (nf_right (nf_left hfz))))
  obtain ⟨a, rfl, rfl, rfl, wa⟩ := open_int Try.underlying3 (hval 3 3 v3 rfl rfl) h3
  obtain ⟨x, rfl, rfl, rfl, wx⟩ := open_int Try.underlying5 (hval 4 5 v4 rfl rfl) h4
  obtain ⟨t, rfl, rfl, rfl, wt⟩ := open_int Try.underlying37 (hval 5 37 v5 rfl rfl) h5
  clear hA0 hval0
  have hcall := fn8.calls (f, ⟨b, 0, n, c, z, c, y, B⟩, ⟨b', 0, n', c', z', c', y', B'⟩, a, x, t)
    ⟨hf, ⟨⟨Nat.le_of_eq (Nat.zero_add c), hn, hz, hB⟩, fun x hx => u8_of_wf (hwf x (List.mem_of_mem_drop (List.mem_of_mem_take hx)))⟩,
      ⟨⟨Nat.le_of_eq (Nat.zero_add c'), hn', hz', hB'⟩, fun x hx => u8_of_wf (hwf' x (List.mem_of_mem_drop (List.mem_of_mem_take hx)))⟩, u8_of_wf wx, u16_of_wf wt⟩
    (fun v hv => by
      simp [spReads, GS.arg] at hv
      rcases hv with rfl | rfl | rfl | rfl | rfl | rfl
      · exact FV.argOk hf
      · trivial
      · trivial
      · trivial
      · trivial
      · trivial) W _ (own_cons (own_cons (own_nil W) 2 hs') 1 hs)
  rw [show ((spReads.args (f, ⟨b, 0, n, c, z, c, y, B⟩, ⟨b', 0, n', c', z', c', y', B'⟩, a, x, t)).map SV.den).toArray = #[v0, v1, v2, .int .i64 a, .int .u8 x, .int .u16 t] by rw [hv0, hv1 1, hv2 2]; rfl] at hcall
  refine hcall.mono fun e W' ⟨r, o', _, _, he, _, hfr⟩ => ?_
  subst he
  exact ⟨_, rfl, post_true Try.laidOut (by rw [Try.params8]; decide +kernel) rfl rfl rfl Try.underlying4 hW' (below_of_fr hfr (allRo_or W))⟩

theorem fragReads_holds : Rows.FragReadsSaid :=
  OpenClaim.holds_of_wide 8 Try.f8 rfl rfl rfl rfl rfl rfl rfl ⟨rfl, rfl, rfl, rfl, rfl⟩ rfl rfl rfl rfl rfl (by kernel_rfl) Try.func8 (by kernel_rfl)
    (of_decide_eq_true (by kernel_rfl)) (by unfold Func.isWrapper; first | (rw [if_pos (by decide +kernel)]; kernel_rfl) | (rw [if_neg (by decide +kernel)]; exact ⟨rfl, rfl⟩))
    (fun os started H enc _ => fragReads_lifted os started H enc)

end Go.Proofs.Ytpggklkofilmfaa
