/- From the machine's plain statement to a call's contract. -/
import Derived.Test.YtpggklkofilmfaaAbMain
set_option linter.unusedSimpArgs false
set_option linter.unnecessarySimpa false
set_option linter.unusedVariables false
namespace Go
namespace Ab
variable {P : Program}

/-- A loop, its state told by something that need not be seen. -/
theorem wp_loop_ghost {Q : Exit → Act → World → Prop} {a : Act} {w : World} {c : Code} {G : Type} (I : G → Act → World → Prop) (μ : G → Nat) (h₀ : ∃ g, I g a w)
    (round : ∀ g a w, I g a w → c.wp P (Exit.then (fun a' w' => ∃ g', I g' a' w' ∧ μ g' < μ g) Q) a w) : (Code.loop c).wp P Q a w := by
  intro b k cs
  have key : ∀ n g a w, μ g = n → I g a w →
      ∃ e a' w', Q e a' w' ∧ Arrives P (lone (b.at a (.code c :: .inLoop c :: k)) cs w) b k cs e a' w' := by
    intro n
    induction n using Nat.strongRecOn with
    | _ n ih =>
      intro g a w hn hI
      obtain ⟨e, a₁, w₁, hq, harr⟩ := round g a w hI b (.inLoop c :: k) cs
      cases e with
      | normal =>
        obtain ⟨g₁, hI₁, hlt⟩ := hq
        obtain ⟨e₂, a₂, w₂, hq₂, harr₂⟩ := ih (μ g₁) (hn ▸ hlt) g₁ a₁ w₁ rfl hI₁
        exact ⟨e₂, a₂, w₂, hq₂, .of_steps (Steps.trans harr (.one step_inLoop)) harr₂⟩
      | exit id => exact ⟨_, a₁, w₁, hq, .pass (x := .inLoop c) rfl (fun _ _ => .inl (by simp)) harr⟩
      | goto l => exact ⟨_, a₁, w₁, hq, .pass (x := .inLoop c) rfl (fun _ _ => .inl (by simp)) harr⟩
      | ret => exact ⟨_, a₁, w₁, hq, .pass (x := .inLoop c) rfl (fun _ _ => .inl (by simp)) harr⟩
      | panic ch => exact ⟨_, a₁, w₁, hq, .pass (x := .inLoop c) rfl (fun _ _ => .inl (by simp)) harr⟩
      | outgrown => exact ⟨_, a₁, w₁, hq, .pass (x := .inLoop c) rfl (fun _ _ => .inl (by simp)) harr⟩
  obtain ⟨g, hg⟩ := h₀
  obtain ⟨e, a', w', hq, harr⟩ := key _ g a w rfl hg
  exact ⟨e, a', w', hq, .of_steps (.one step_loop) harr⟩

section
variable {cx : Cx} {rs : List ResultVar} {nt : Notes} {post : SV → Hp → Prop} {w0 : World} {o0 : Nat → Option Ow} {Qf : Exit → Act → World → Prop}

theorem closed_empty (ops : Array Oper) : Closed .any ops (Array.replicate ops.size false) := by
  intro j oj _ hl
  have : (Array.replicate ops.size false).getD j false = false := by
    rcases Nat.lt_or_ge j ops.size with h | h <;> simp [h]
  rw [this] at hl; cases hl

theorem vc_sound (hcx : CxOk P cx) (hm : P.follows .mixedOrders = true) (hQ : ∀ c a w a', a.defers = a'.defers → Qf (.panic c) a w → Qf (.panic c) a' w)
    (hret : ∀ s h a w p l, St cx.ntmps w0 o0 s h a w → retV cx s h rs = some (p, l) → p.holds → post (retSV l) h → Qf .ret a w ∧ Qf .normal a w) :
    ∀ n k, Good P cx rs nt post w0 o0 Qf n k := by
  intro n
  induction n with
  | zero => intro k m s h a w hlt; omega
  | succ n ih =>
    intro k m s h a w hlt hv hst
    by_cases hmn : m < n
    · exact ih k m s h a w hmn hv hst
    have hmn : m = n := by omega
    subst hmn
    cases m with
    | zero => simp [vc] at hv
    | succ m =>
    have go : ∀ k s h a w, vc cx rs nt post m k s h → St cx.ntmps w0 o0 s h a w → Kx P cx w0 o0 Qf k .normal a w := fun k s h a w hv hst => ih k m s h a w (Nat.lt_succ_self m) hv hst
    have hG : ∀ k, Good P cx rs nt post w0 o0 Qf m k := fun k m' s h a w hm' => ih k m' s h a w (by omega)
    cases k with
    | nil =>
      simp only [vc] at hv
      split at hv
      · rename_i p l hr
        rw [then_iff] at hv
        exact (hret _ _ _ _ _ _ hst hr hv.1 hv.2).2
      · exact hv.elim
    | cons it k =>
    cases it with
    | blk id => exact go k s h a w (by simpa only [vc] using hv) hst
    | inv i => exact hst.meets (by simpa only [vc] using hv)
    | back i g => exact hst.meets (by simpa only [vc] using hv)
    | rop ops todo => trivial
    | code c =>
      show c.wp P (Kx P cx w0 o0 Qf k) a w
      cases c with
      | skip => exact wp_skip (go k s h a w (by simpa only [vc] using hv) hst)
      | label l => exact wp_label (go k s h a w (by simpa only [vc] using hv) hst)
      | seq x y =>
        have cut : ∀ i : Inv, (vc cx rs nt post m (.code x :: .inv i :: k) s h ∧ ∀ g, i.pre g → vc cx rs nt post m (.code y :: k) (i.sl g) (i.hp g)) → (Code.seq x y).wp P (Kx P cx w0 o0 Qf k) a w := by
          intro i hv
          refine wp_seq (wp_mono (go _ s h a w hv.1 hst) fun e a w hq => ?_)
          cases e with
          | normal =>
            obtain ⟨g, hg, _, hst'⟩ := hq
            exact go (.code y :: k) _ _ a w (hv.2 g hg) hst'
          | _ => exact hq
        simp only [vc] at hv
        split at hv
        · exact wp_seq (go _ s h a w hv hst)
        · obtain ⟨i, hi⟩ := hv
          exact cut i hi
        · rename_i i hi
          exact cut i hv
      | cond x y z =>
        simp only [vc] at hv
        split at hv
        · rename_i p hx
          exact wp_cond_split (t := p) (hst.sl.eval hx) (fun hp => go (.code y :: k) s h a w (hv.1 hp) hst) (fun hp => go (.code z :: k) s h a w (hv.2 hp) hst)
        · exact hv.elim
      | block id b => exact wp_block (go (.code b :: .blk id :: k) s h a w (by simpa only [vc] using hv) hst)
      | loop b =>
        have loop : ∀ i : Inv, ((meets i s h fun _ => True) ∧ ∀ g, i.pre g → vc cx rs nt post m (.code b :: .back i g :: k) (i.sl g) (i.hp g)) → (Code.loop b).wp P (Kx P cx w0 o0 Qf k) a w := by
          intro i hv
          refine wp_loop_ghost (G := i.G) (fun g a w => i.pre g ∧ St cx.ntmps w0 o0 (i.sl g) (i.hp g) a w) i.mu ?_ fun g a w ⟨hg, hs⟩ => ?_
          · obtain ⟨g, h1, _, h2⟩ := hst.meets hv.1
            exact ⟨g, h1, h2⟩
          · refine wp_mono (go (.code b :: .back i g :: k) _ _ a w (hv.2 g hg) hs) fun e a w hq => ?_
            cases e with
            | normal => obtain ⟨g', h1, h2, h3⟩ := hq; exact ⟨g', ⟨h1, h3⟩, h2⟩
            | _ => exact hq
        simp only [vc] at hv
        split at hv
        · obtain ⟨i, hi⟩ := hv
          exact loop i hi
        · rename_i i hi
          exact loop i hv
      | exit id =>
        simp only [vc] at hv
        split at hv
        · rename_i k' hk; exact wp_exit (Kx_exit id k k' a w hk (go k' s h a w hv hst))
        · exact hv.elim
      | ret =>
        simp only [vc] at hv
        split at hv
        · rename_i p l hr
          rw [then_iff] at hv
          exact wp_ret (by rw [Kx_ret]; exact (hret _ _ _ _ _ _ hst hr hv.1 hv.2).1)
        · exact hv.elim
      | region id ops draw =>
        simp only [vc] at hv
        split at hv
        · exact wp_region (rop_plain hcx m _ s h a w (hG k) hv hst)
        · split at hv
          · rename_i l hl
            obtain ⟨hc, hv⟩ := hv
            simp only [canon, Bool.and_eq_true] at hc
            obtain ⟨⟨hc1, hc2⟩, hc3⟩ := hc
            have hlen := Nat.le_of_ble_eq_true hc2
            obtain ⟨o, hw, hf⟩ := hst.own
            have hst' : St cx.ntmps w0 o0 s h a { w with drawn := w.drawn + 1 } := ⟨hst.sl, hst.defers, o, hw.drew _, hf.drew _⟩
            exact wp_region_any hm (wpAny_of_anyX _ _ _ _ ((rop_draw hcx hQ hc1 m l _ s h a _ (hG k) hv hst' (closed_empty ops)).1 hc3 ops.size hlen))
          · exact hv.elim
      | rangeFunc f ps as b => simp [vc] at hv
      | scope b => simp [vc] at hv
      | goto l => simp [vc] at hv
      | refuse y => simp [vc] at hv

/-- One result, as the model reads it. -/
def resOf (tmps : Array Value) : ResultVar → Sem Value
  | .tmp t => pure (tmps.getD t undef)
  | .cell a t => do loadVar t (← asAddr (tmps.getD a undef))

/-- The results, as the model gathers them. -/
theorem retV_run (hcx : CxOk P cx) {s : Sl} {h : Hp} {a : Act} {w : World} (hst : St cx.ntmps w0 o0 s h a w) : ∀ (rs : List ResultVar) (p : C) (l : List SA), retV cx s h rs = some (p, l) → p.holds →
    (rs.mapM (resOf a.tmps)).run P w = .ok (l.map SA.den) w ∧ ∀ x ∈ l, x.ok
  | [], p, l, hr, _ => by
    simp only [retV, Option.some.injEq, Prod.mk.injEq] at hr
    obtain ⟨_, rfl⟩ := hr
    exact ⟨rfl, by simp⟩
  | .tmp t :: r, p, l, hr, hp => by
    simp only [retV] at hr
    split at hr
    · rename_i v q l' hv hl
      split at hr
      · rename_i x hx
        simp only [Option.some.injEq, Prod.mk.injEq] at hr
        obtain ⟨rfl, rfl⟩ := hr
        obtain ⟨i1, i2⟩ := retV_run hcx hst r q l' hl hp
        obtain ⟨g1, g2⟩ := hst.sl.get _ _ hv
        have hxd : x.den = v.den ∧ (v.ok → x.ok) := by
          cases v <;> simp only [SV.sa, Option.some.injEq, reduceCtorEq] at hx <;> subst hx
          · exact ⟨rfl, fun h => h⟩
          · exact ⟨rfl, fun h => h⟩
        refine ⟨?_, fun y hy => ?_⟩
        · have e : (resOf a.tmps (.tmp t)).run P w = .ok x.den w := by
            simp [resOf, Array.getD_eq_getD_getElem?, g1, hxd.1]
          simp only [List.mapM_cons, Sem.run_bind, e, i1, Result.andThen_ok, Sem.run_pure, List.map_cons]
        · simp only [List.mem_cons] at hy
          rcases hy with rfl | hy
          · exact hxd.2 g2
          · exact i2 y hy
      · cases hr
    · cases hr
  | .cell x t :: r, p, l, hr, hp => by
    simp only [retV] at hr
    split at hr
    · rename_i q v q' l' hv hl
      split at hr
      · rename_i y hy
        simp only [Option.some.injEq, Prod.mk.injEq] at hr
        obtain ⟨rfl, rfl⟩ := hr
        obtain ⟨p1, p2⟩ := holds_and hp
        obtain ⟨i1, i2⟩ := retV_run hcx hst r q' l' hl p2
        obtain ⟨o, hw, hf⟩ := hst.own
        obtain ⟨g1, g2⟩ := stillOp_run hcx.tab hst.sl hv p1 (fun _ => hw) ⟨none, .load t (.tmp x), 0, "", #[], none⟩ rfl
        have hptr : ∃ b, a.eval (.tmp x) = .pointer (some b) := by
          unfold stillOp at hv
          dsimp only at hv
          split at hv
          · rename_i hx; exact ⟨_, hst.sl.eval hx⟩
          · cases hv
        obtain ⟨b, hb⟩ := hptr
        have hb' : a.tmps.getD x undef = .pointer (some b) := hb
        have e : (resOf a.tmps (.cell x t)).run P w = .ok v.den w := by
          simp only [execOp, hb, Instr.loadAt, Instr.sureAddr, Sem.run_bind, Sem.run_pure, Result.andThen_ok] at g1
          simp only [resOf, hb', asAddr, Sem.run_bind, Sem.run_pure, Result.andThen_ok]
          cases hl : (loadVar t b).run P w with
          | ok z w' => rw [hl] at g1; simp only [Result.andThen_ok, Result.ok.injEq, Next.value.injEq] at g1; rw [g1.1, g1.2]
          | halt z w' => rw [hl] at g1; cases g1
        have hyd : y.den = v.den ∧ (v.ok → y.ok) := by
          cases v <;> simp only [SV.sa, Option.some.injEq, reduceCtorEq] at hy <;> subst hy
          · exact ⟨rfl, fun h => h⟩
          · exact ⟨rfl, fun h => h⟩
        refine ⟨?_, fun z hz => ?_⟩
        · simp only [List.mapM_cons, Sem.run_bind, e, i1, Result.andThen_ok, Sem.run_pure, List.map_cons, hyd.1]
        · simp only [List.mem_cons] at hz
          rcases hz with rfl | hz
          · exact hyd.2 g2
          · exact i2 z hz
      · cases hr
    · cases hr

theorem results_run {fn : Func} {w : World} {tmps : Array Value} {l : List SA} (h : (fn.results.toList.mapM (resOf tmps)).run P w = .ok (l.map SA.den) w) : (results fn tmps).run P w = .ok (retSV l).den w := by
  have e : results fn tmps = (do
      let vs ← fn.results.mapM (resOf tmps)
      pure (if h : vs.size = 1 then vs[0] else .tuple vs)) := by
    unfold results
    congr 1
  rw [e, Array.mapM_eq_mapM_toList]
  simp only [Sem.run_bind, Sem.run_map, h, Result.andThen_ok, Sem.run_pure]
  congr 1
  match l with
  | [] => rfl
  | [x] => cases x <;> rfl
  | x :: y :: r => simp [retSV, SV.den]

/-- What a call of the function comes to, by the machine's statement of its body. -/
theorem calls_of_vc (hcx : CxOk P cx) (hm : P.follows .mixedOrders = true) {f : FuncId} {fn : Func} {c : Code} (hf : P.funcs[f]? = some fn) (hb : fn.body = some c) (hn : fn.ntmps = cx.ntmps)
    {vs : List SV} (hlen : vs.length ≤ fn.ntmps) (hvs : ∀ v ∈ vs, v.ok) {s : Sl} (hs : ∀ i v, s.get i = some v → vs[i]? = some v) {h : Hp} {w : World} {o : Nat → Option Ow} (hw : Own h o w) {fuel : Nat}
    (hv : vc cx fn.results.toList nt post fuel [.code c] s h) :
    Calls P f (vs.map SV.den).toArray w fun e w' => ∃ v h' o', e = .returned v.den ∧ v.ok ∧ post v h' ∧ Own h' o' w' ∧ Fr w o w' o' := by
  refine calls_of_wp hf hb ?_
  have hst : St cx.ntmps w o s h { tmps := (vs.map SV.den).toArray ++ Array.replicate (fn.ntmps - (vs.map SV.den).toArray.size) undef, defers := [] } w := by
    refine ⟨⟨by simp; omega, fun i v hi => ?_⟩, rfl, o, hw, Fr.refl _ _⟩
    have := hs i v hi
    obtain ⟨hlt, hiv⟩ := List.getElem?_eq_some_iff.1 this
    refine ⟨?_, hvs v (List.mem_of_getElem? this)⟩
    rw [Array.getElem?_append_left (by simpa using hlt)]
    simp [this]
  have key := vc_sound (P := P) (cx := cx) (rs := fn.results.toList) (nt := nt) (post := post) (w0 := w) (o0 := o)
    (Qf := bodyPost P fn fun e w' => ∃ v h' o', e = .returned v.den ∧ v.ok ∧ post v h' ∧ Own h' o' w' ∧ Fr w o w' o') hcx hm
    (fun c a w' a' _ hq => by
      obtain ⟨_, v, h', o', he, _⟩ := hq
      cases he)
    (fun s h a w' p l hst hr hp hpost => by
      obtain ⟨h1, h2⟩ := retV_run hcx hst _ _ _ hr hp
      obtain ⟨o', hw', hf'⟩ := hst.own
      have hok : (retSV l).ok := by
        match l, h2 with
        | [], h2 => exact h2
        | [x], h2 => cases x with
          | c _ => trivial
          | agg y => exact h2 _ (List.mem_singleton.2 rfl)
        | _ :: _ :: _, h2 => exact h2
      have : bodyPost P fn (fun e w' => ∃ v h' o', e = .returned v.den ∧ v.ok ∧ post v h' ∧ Own h' o' w' ∧ Fr w o w' o') .ret a w' :=
        ⟨hst.defers, _, results_run h1, retSV l, h, o', rfl, hok, hpost, hw', hf'⟩
      exact ⟨this, this⟩)
    (fuel + 1) [.code c]
  exact key fuel s h _ w (Nat.lt_succ_self _) hv hst

end
end Ab
end Go
