/- The plain statement of a function's code gives the call. -/
import Derived.Test.YtpggklkofilmfaaAbSound
set_option linter.unusedSimpArgs false
set_option linter.unnecessarySimpa false
set_option linter.unusedVariables false
namespace Go
namespace Ab
variable {P : Program}

/-! ### What an outcome keeps -/
theorem effOp_keeps {cx : Cx} (hcx : CxOk P cx) {s : Sl} {h : Hp} {O : Oper} (hc : clsOf cx O = .make) (hr : (effOp cx s h O.dst O.op).fits h fun _ _ => True) :
    (effOp cx s h O.dst O.op).fits h fun _ h' => Hext h h' := by
  unfold clsOf at hc
  generalize hO : O.op = op at hr hc ⊢
  generalize hd : O.dst = d at hr ⊢
  split at hc <;> first
    | cases hc
    | skip
  · split at hc <;> cases hc
  · -- alloc
    unfold effOp at hr ⊢
    dsimp only at hr ⊢
    split at hr
    · split at hr
      · rename_i hn; exact ⟨hr.1, fun b _ => Hext.put hn _ _⟩
      · exact hr.elim
    · exact hr.elim
  · -- box
    unfold effOp at hr ⊢
    dsimp only at hr ⊢
    split at hr
    · rename_i hn
      split at hr
      · exact ⟨hr.1, fun b _ => Hext.put hn _ _⟩
      · exact hr.elim
    · rename_i hn; exact ⟨hr.1, fun b _ => Hext.put hn _ _⟩
    · exact hr.elim
  · -- buildSlice
    unfold effOp at hr ⊢
    dsimp only at hr ⊢
    split at hr
    · rename_i hn _
      split at hr
      · split at hr
        · split at hr
          · exact ⟨hr.1, fun b _ => Hext.put hn _ _⟩
          · exact hr.elim
        · exact hr.elim
      · split at hr
        · split at hr
          · split at hr
            · exact ⟨hr.1, fun b _ => Hext.put hn _ _⟩
            · exact hr.elim
          · exact hr.elim
        · exact hr.elim
      · split at hr
        · split at hr
          · exact ⟨hr.1, fun b _ => Hext.put hn _ _⟩
          · exact hr.elim
        · exact hr.elim
      · exact hr.elim
    · exact hr.elim
  · -- makeSlice
    unfold effOp makeOp at hr ⊢
    dsimp only at hr ⊢
    split at hr
    · rename_i hn
      split at hr
      · split at hr
        · exact ⟨hr.1, fun b _ => Hext.put hn _ _⟩
        · exact hr.elim
      · exact hr.elim
    · exact hr.elim
  · split at hc <;> cases hc
  · -- call
    split at hc
    · rename_i c hcon
      split at hc
      · cases hc
      · rename_i hwr
        unfold effOp at hr ⊢
        dsimp only at hr ⊢
        rw [hcon] at hr ⊢
        split at hr
        · rename_i c' vs hc' hv
          cases hc'
          exact (hcx.con _ _ hcon).keeps hwr _ _ _ hr
        · exact hr.elim
    · cases hc

section
variable {cx : Cx} {rs : List ResultVar} {nt : Notes} {post : SV → Hp → Prop} {w0 : World} {o0 : Nat → Option Ow} {Qf : Exit → Act → World → Prop}

/-- What is asked of the code that runs ahead of these items. -/
def Kx (P : Program) (cx : Cx) (w0 : World) (o0 : Nat → Option Ow) (Qf : Exit → Act → World → Prop) : List Item → Exit → Act → World → Prop
  | [] => Qf
  | .code c :: k => Exit.then (c.wp P (Kx P cx w0 o0 Qf k)) (Kx P cx w0 o0 Qf k)
  | .blk id :: k => Exit.inBlock id (Kx P cx w0 o0 Qf k)
  | .inv i :: k => Exit.then (InvAt cx.ntmps w0 o0 i fun _ => True) (Kx P cx w0 o0 Qf k)
  | .back i g :: k => Exit.then (InvAt cx.ntmps w0 o0 i fun g' => i.mu g' < i.mu g) (Kx P cx w0 o0 Qf k)
  | .rop _ _ :: k => Exit.then (fun _ _ => True) (Kx P cx w0 o0 Qf k)

theorem Kx_panic : ∀ (k : List Item) (c : List PanicEntry) (a : Act) (w : World), Kx P cx w0 o0 Qf k (.panic c) a w = Qf (.panic c) a w
  | [], _, _, _ => rfl
  | .code _ :: k, c, a, w => Kx_panic k c a w
  | .blk _ :: k, c, a, w => Kx_panic k c a w
  | .inv _ :: k, c, a, w => Kx_panic k c a w
  | .back _ _ :: k, c, a, w => Kx_panic k c a w
  | .rop _ _ :: k, c, a, w => Kx_panic k c a w
theorem Kx_ret : ∀ (k : List Item) (a : Act) (w : World), Kx P cx w0 o0 Qf k .ret a w = Qf .ret a w
  | [], _, _ => rfl
  | .code _ :: k, a, w => Kx_ret k a w
  | .blk _ :: k, a, w => Kx_ret k a w
  | .inv _ :: k, a, w => Kx_ret k a w
  | .back _ _ :: k, a, w => Kx_ret k a w
  | .rop _ _ :: k, a, w => Kx_ret k a w
theorem Kx_exit (id : Nat) : ∀ (k k' : List Item) (a : Act) (w : World), popTo id k = some k' → Kx P cx w0 o0 Qf k' .normal a w → Kx P cx w0 o0 Qf k (.exit id) a w
  | [], _, _, _, h, _ => by simp [popTo] at h
  | .code _ :: k, k', a, w, h, hk => Kx_exit id k k' a w h hk
  | .inv _ :: k, k', a, w, h, hk => Kx_exit id k k' a w h hk
  | .back _ _ :: k, k', a, w, h, hk => Kx_exit id k k' a w h hk
  | .rop _ _ :: k, k', a, w, h, hk => Kx_exit id k k' a w h hk
  | .blk j :: k, k', a, w, h, hk => by
    simp only [popTo] at h
    simp only [Kx, Exit.inBlock]
    split at h
    · rename_i hj; cases h; rw [if_pos (beq_true hj)]; exact hk
    · rename_i hj; rw [if_neg (beq_false hj)]; exact Kx_exit id k k' a w h hk

/-- What the machine's statement, with less fuel, is worth. -/
def Good (P : Program) (cx : Cx) (rs : List ResultVar) (nt : Notes) (post : SV → Hp → Prop) (w0 : World) (o0 : Nat → Option Ow) (Qf : Exit → Act → World → Prop) (n : Nat) (k : List Item) : Prop :=
  ∀ m s h a w, m < n → vc cx rs nt post m k s h → St cx.ntmps w0 o0 s h a w → Kx P cx w0 o0 Qf k .normal a w

/-- A guard's answer. -/
theorem guard_yields {ops : Array Oper} {j d : Nat} {p : Bool} {s : Sl} {a : Act} (hs : SlOk cx.ntmps s a) (hd : (ops[j]?).bind (·.dst) = some d) (hg : s.get d = some (.c (.v (.bool p)))) :
    yielded ops a.tmps j = some p := by
  have := (hs.get _ _ hg).1
  unfold yielded
  rw [hd]
  simp only [Option.bind_some]
  rw [this]; rfl

/-- One operation, of a region, in the machine's statement. -/
theorem op_step (hcx : CxOk P cx) {n : Nat} {ops : Array Oper} {i : Nat} {is : Ord} {k : List Item} {s : Sl} {h : Hp} {a : Act} {w : World} {o : Oper} (ho : ops[i]? = some o)
    (hv : vc cx rs nt post (n + 1) (.rop ops (.step i is) :: k) s h) (hst : St cx.ntmps w0 o0 s h a w) {Q : Exit → Act → World → Prop} {K : Act → World → Prop}
    (hk : ∀ s' h' a' w', vc cx rs nt post n (.rop ops is :: k) s' h' → St cx.ntmps w0 o0 s' h' a' w' → K a' w') : wpOp P ops Q i K a w := by
  simp only [vc, ho] at hv
  unfold wpOp
  simp only [ho]
  split at hv
  · rename_i hgd
    rw [if_pos (by simp [Region.wanted, hgd])]
    exact .inl (stepOp_wp hcx hst o (Res.then_fits hv) fun v h' a' w' hF hs' _ => hk _ _ _ _ hF hs')
  · rename_i j want hgd
    split at hv
    · exact hv.elim
    · rename_i d hd
      split at hv
      · rename_i p hg
        have hy := guard_yields hst.sl hd hg
        by_cases hp : p = want
        · subst hp
          rw [if_pos (by simp [Region.wanted, hgd, hy])]
          have hst' : St cx.ntmps w0 o0 ((d, .bool p) :: s) h a w := ⟨hst.sl.override hg rfl trivial, hst.defers, hst.own⟩
          exact .inl (stepOp_wp hcx hst' o (Res.then_fits (hv.1 rfl)) fun v h' a' w' hF hs' _ => hk _ _ _ _ hF hs')
        · have hp' : p = !want := by cases p <;> cases want <;> simp_all
          rw [if_neg (by simp [Region.wanted, hgd, hy, hp])]
          obtain ⟨hd', hv'⟩ := hv.2 hp'
          obtain ⟨ow, hw, hf⟩ := hst.own
          have hst' : St cx.ntmps w0 o0 ((d, .bool (!want)) :: s) h a w := ⟨hst.sl.override hg (by rw [hp']) trivial, hst.defers, hst.own⟩
          exact hk _ _ _ _ hv' (hst'.step hd' (v := .nothing) trivial hf hw (Fr.refl _ _))
      · exact hv.elim

theorem rop_plain (hcx : CxOk P cx) {ops : Array Oper} {k : List Item} : ∀ (n : Nat) (todo : List Nat) (s : Sl) (h : Hp) (a : Act) (w : World),
    Good P cx rs nt post w0 o0 Qf n k → vc cx rs nt post n (.rop ops (seqOf todo) :: k) s h → St cx.ntmps w0 o0 s h a w → wpOps P ops (Kx P cx w0 o0 Qf k) todo a w
  | 0, _, _, _, _, _, _, hv, _ => by simp [vc] at hv
  | n + 1, [], s, h, a, w, hG, hv, hst => by
    simp only [vc, seqOf] at hv
    exact hG n _ _ _ _ (Nat.lt_succ_self n) hv ⟨hst.sl.keep _, hst.defers, hst.own⟩
  | n + 1, i :: is, s, h, a, w, hG, hv, hst => by
    simp only [seqOf] at hv
    rw [wpOps_cons]
    cases ho : ops[i]? with
    | none => simp [vc, ho] at hv
    | some o =>
      exact op_step hcx ho hv hst fun s' h' a' w' hv' hst' => rop_plain hcx n is s' h' a' w' (fun m s h a w hm => hG m s h a w (Nat.lt_succ_of_lt hm)) hv' hst'

/-- The writers of a region. -/
def writers (cx : Cx) (ops : Array Oper) (j : Nat) : Bool := match ops[j]? with
  | some o => (match clsOf cx o with | .write => true | _ => false)
  | none => false

/-- The world holds the heap. -/
def Holds (h : Hp) (w : World) : Prop := ∃ o, Own h o w

theorem still_yields (hcx : CxOk P cx) {ops : Array Oper} {s : Sl} {h : Hp} {a : Act} {w : World} (hst : St cx.ntmps w0 o0 s h a w) (O : Oper) (hw : Region.wanted O (yielded ops a.tmps) = true)
    {p : C} {v : SV} (hr : stillOp cx s h O.op = .st p v) (hp : p.holds) : YieldsIf P ops (Holds h) O v.den a ∧ (¬ reads cx O.op → Yields P ops O v.den a) ∧ v.ok := by
  obtain ⟨o, ho, _⟩ := hst.own
  have hok := (stillOp_run hcx.tab hst.sl hr hp (fun _ => ho) O rfl).2
  refine ⟨.inl ⟨hw, fun w' ⟨o', ho'⟩ => (stillOp_run hcx.tab hst.sl hr hp (fun _ => ho') O rfl).1⟩, fun hl => .inl ⟨hw, fun w' => ?_⟩, hok⟩
  exact (stillOp_run (w := w') (o := o) hcx.tab hst.sl hr hp (fun e => absurd e hl) O rfl).1

theorem cls_load {O : Oper} (hc : clsOf cx O = .pure) : ¬ reads cx O.op := by
  intro e
  unfold clsOf at hc
  unfold reads at e
  generalize O.op = op at hc e
  cases op <;> dsimp only at hc e <;> first
    | exact e.elim
    | exact absurd hc (by intro h; cases h)
    | (split at e
       · rename_i h; rw [h] at hc; cases hc
       · cases e)

theorem fits_and {h : Hp} {F G : SV → Hp → Prop} {r : Res} (h1 : r.fits h F) (h2 : r.fits h G) : r.fits h fun v h' => F v h' ∧ G v h' := by
  cases r with
  | bad => exact h1
  | st p v => exact ⟨h1.1, h1.2, h2.2⟩
  | det p v h' => exact ⟨h1.1, h1.2, h2.2⟩
  | eff p R q v h' => exact ⟨h1.1, fun r hq => ⟨h1.2 r hq, h2.2 r hq⟩⟩

def isWrite (cx : Cx) (O : Oper) : Bool := match clsOf cx O with | .write => true | _ => false

theorem stepOp_keeps (hcx : CxOk P cx) {s : Sl} {h : Hp} {O : Oper} {F : SV → Hp → Prop} (hr : (stepOp cx s h O).fits h F) :
    (stepOp cx s h O).fits h fun v h' => F v h' ∧ (isWrite cx O = false → Hext h h') := by
  refine fits_and hr ?_
  unfold stepOp at hr ⊢
  split
  · rename_i hd; rw [hd] at hr; exact hr.elim
  · rename_i hd
    rw [hd] at hr
    dsimp only at hr
    have still : (stillOp cx s h O.op).fits h F → (stillOp cx s h O.op).fits h fun v h' => (isWrite cx O = false → Hext h h') := by
      intro hr
      cases hs : stillOp cx s h O.op with
      | st p v => rw [hs] at hr; exact ⟨hr.1, fun _ => Hext.refl h⟩
      | bad => rw [hs] at hr; exact hr.elim
      | det p v h' => exact absurd hs stillOp_det
      | eff p R q v h' => exact absurd hs stillOp_eff
    split
    · rename_i hc; rw [hc] at hr; exact still hr
    · rename_i hc; rw [hc] at hr; exact still hr
    · rename_i hc
      rw [hc] at hr
      exact Res.fits_mono (fun _ _ e _ => e) (effOp_keeps hcx hc (Res.fits_mono (fun _ _ _ => trivial) hr))
    · rename_i hc
      rw [hc] at hr
      exact Res.fits_mono (fun _ _ _ e => by simp [isWrite, hc] at e) hr

theorem op_step' (hcx : CxOk P cx) {n : Nat} {ops : Array Oper} {i : Nat} {is : Ord} {k : List Item} {s : Sl} {h : Hp} {a : Act} {w : World} {o : Oper} (ho : ops[i]? = some o)
    (hv : vc cx rs nt post (n + 1) (.rop ops (.step i is) :: k) s h) (hst : St cx.ntmps w0 o0 s h a w) {Q : Exit → Act → World → Prop} {K : Act → World → Prop}
    (hk : ∀ s' h' a' w', (isWrite cx o = false → Hext h h') → vc cx rs nt post n (.rop ops is :: k) s' h' → St cx.ntmps w0 o0 s' h' a' w' → K a' w') : wpOp P ops Q i K a w := by
  simp only [vc, ho] at hv
  unfold wpOp
  simp only [ho]
  split at hv
  · rename_i hgd
    rw [if_pos (by simp [Region.wanted, hgd])]
    exact .inl (stepOp_wp hcx hst o (stepOp_keeps hcx (Res.then_fits hv)) fun v h' a' w' hF hs' _ => hk _ _ _ _ hF.2 hF.1 hs')
  · rename_i j want hgd
    split at hv
    · exact hv.elim
    · rename_i d hd
      split at hv
      · rename_i p hg
        have hy := guard_yields hst.sl hd hg
        by_cases hp : p = want
        · subst hp
          rw [if_pos (by simp [Region.wanted, hgd, hy])]
          have hst' : St cx.ntmps w0 o0 ((d, .bool p) :: s) h a w := ⟨hst.sl.override hg rfl trivial, hst.defers, hst.own⟩
          exact .inl (stepOp_wp hcx hst' o (stepOp_keeps hcx (Res.then_fits (hv.1 rfl))) fun v h' a' w' hF hs' _ => hk _ _ _ _ hF.2 hF.1 hs')
        · have hp' : p = !want := by cases p <;> cases want <;> simp_all
          rw [if_neg (by simp [Region.wanted, hgd, hy, hp])]
          obtain ⟨hd', hv'⟩ := hv.2 hp'
          obtain ⟨ow, hw, hf⟩ := hst.own
          have hst' : St cx.ntmps w0 o0 ((d, .bool (!want)) :: s) h a w := ⟨hst.sl.override hg (by rw [hp']) trivial, hst.defers, hst.own⟩
          exact hk _ _ _ _ (fun _ => Hext.refl h) hv' (hst'.step hd' (v := .nothing) trivial hf hw (Fr.refl _ _))
      · exact hv.elim

/-- A quiet operation, of a region, in the machine's statement: its value, and what follows. -/
theorem op_quiet (hcx : CxOk P cx) {n : Nat} {ops : Array Oper} {i : Nat} {is : Ord} {k : List Item} {s : Sl} {h : Hp} {a : Act} {w : World} {o : Oper} (ho : ops[i]? = some o)
    (hv : vc cx rs nt post (n + 1) (.rop ops (.step i is) :: k) s h) (hst : St cx.ntmps w0 o0 s h a w) (hc : clsOf cx o = .pure ∨ clsOf cx o = .read) :
    ∃ u s', YieldsIf P ops (Holds h) o u a ∧ (clsOf cx o = .pure → Yields P ops o u a) ∧ vc cx rs nt post n (.rop ops is :: k) s' h ∧ St cx.ntmps w0 o0 s' h (a.put o.dst u) w := by
  simp only [vc, ho] at hv
  have step : ∀ s : Sl, St cx.ntmps w0 o0 s h a w → Region.wanted o (yielded ops a.tmps) = true → (stepOp cx s h o).then h (fun v h' => vc cx rs nt post n (.rop ops is :: k) (s.setD o.dst v) h') →
      ∃ u s', YieldsIf P ops (Holds h) o u a ∧ (clsOf cx o = .pure → Yields P ops o u a) ∧ vc cx rs nt post n (.rop ops is :: k) s' h ∧ St cx.ntmps w0 o0 s' h (a.put o.dst u) w := by
    intro s hst hw hv
    have hv := Res.then_fits hv
    unfold stepOp at hv
    split at hv
    · exact hv.elim
    · rename_i hd
      have hv : (stillOp cx s h o.op).fits h (fun v h' => vc cx rs nt post n (.rop ops is :: k) (s.setD o.dst v) h') := by
        rcases hc with hc | hc <;> (rw [hc] at hv; exact hv)
      obtain ⟨ow, hown, hf⟩ := hst.own
      cases hs : stillOp cx s h o.op with
      | st p v =>
        rw [hs] at hv
        obtain ⟨y1, y2, y3⟩ := still_yields hcx hst o hw hs hv.1
        exact ⟨v.den, _, y1, fun hp => y2 (cls_load hp), hv.2, hst.step hd y3 hf hown (Fr.refl _ _)⟩
      | bad => rw [hs] at hv; exact hv.elim
      | det p v h' => exact absurd hs stillOp_det
      | eff p R q v h' => exact absurd hs stillOp_eff
  split at hv
  · rename_i hgd
    exact step s hst (by simp [Region.wanted, hgd]) hv
  · rename_i j want hgd
    split at hv
    · exact hv.elim
    · rename_i d hd
      split at hv
      · rename_i p hg
        have hy := guard_yields hst.sl hd hg
        by_cases hp : p = want
        · subst hp
          exact step _ ⟨hst.sl.override hg rfl trivial, hst.defers, hst.own⟩ (by simp [Region.wanted, hgd, hy]) (hv.1 rfl)
        · have hp' : p = !want := by cases p <;> cases want <;> simp_all
          obtain ⟨hd', hv'⟩ := hv.2 hp'
          obtain ⟨ow, hw, hf⟩ := hst.own
          have hst' : St cx.ntmps w0 o0 ((d, .bool (!want)) :: s) h a w := ⟨hst.sl.override hg (by rw [hp']) trivial, hst.defers, hst.own⟩
          have hwn : Region.wanted o (yielded ops a.tmps) = false := by simp [Region.wanted, hgd, hy, hp]
          exact ⟨undef, _, .inr ⟨hwn, rfl⟩, fun _ => .inr ⟨hwn, rfl⟩, hv', hst'.step hd' (v := .nothing) trivial hf hw (Fr.refl _ _)⟩
      · exact hv.elim

theorem anyX_done {ops : Array Oper} {Q : Exit → Act → World → Prop} {W : Nat → Bool} {S : World → Prop} {listed : Array Bool} {a : Act} {w : World} (hr : Region.ready .any ops listed = []) (h : Q .normal a w) :
    ∀ fuel, anyX P .any ops Q W S fuel listed a w
  | 0 => ⟨hr, h⟩
  | _ + 1 => ⟨fun _ => h, by rw [hr]; simp⟩

theorem rop_draw (hcx : CxOk P cx) {ops : Array Oper} {k : List Item} (hQ : ∀ c a w a', a.defers = a'.defers → Qf (.panic c) a w → Qf (.panic c) a' w) (hsel : Region.noSelect ops = true) :
    ∀ (n : Nat) (todo : Ord) (listed : Array Bool) (s : Sl) (h : Hp) (a : Act) (w : World),
    Good P cx rs nt post w0 o0 Qf n k → vc cx rs nt post n (.rop ops todo :: k) s h → St cx.ntmps w0 o0 s h a w → Closed .any ops listed →
    (canonB cx ops false todo listed = true → ∀ fuel, todo.depth ≤ fuel → anyX P .any ops (Kx P cx w0 o0 Qf k) (writers cx ops) (Holds h) fuel listed a w) ∧
    (canonB cx ops true todo listed = true → ∀ fuel, todo.depth ≤ fuel + 1 → ∀ j ∈ todo.heads, j ∈ Region.ready .any ops listed → wpOp P ops (Kx P cx w0 o0 Qf k) j (fun a' w' =>
      (writers cx ops j = true → wpAny P .any ops (Kx P cx w0 o0 Qf k) fuel (listed.setIfInBounds j true) a' w') ∧
      (writers cx ops j = false → Holds h w' ∧ anyX P .any ops (Kx P cx w0 o0 Qf k) (writers cx ops) (Holds h) fuel (listed.setIfInBounds j true) a' w')) a w)
  | 0, _, _, _, _, _, _, _, hv, _, _ => by simp [vc] at hv
  | n + 1, .nil, listed, s, h, a, w, hG, hv, hst, hcl => by
    refine ⟨fun hc fuel _ => ?_, fun hc => by simp [canonB] at hc⟩
    simp only [vc] at hv
    simp only [canonB, Bool.not_false, Bool.true_and, List.isEmpty_iff] at hc
    exact anyX_done hc (hG n _ _ _ _ (Nat.lt_succ_self n) hv ⟨hst.sl.keep _, hst.defers, hst.own⟩) fuel
  | n + 1, .fork i t u, listed, s, h, a, w, hG, hv, hst, hcl => by
    have hG' : Good P cx rs nt post w0 o0 Qf n k := fun m s h a w hm => hG m s h a w (Nat.lt_succ_of_lt hm)
    simp only [vc] at hv
    obtain ⟨hv1, hv2⟩ := hv
    have i1 := (rop_draw hcx hQ hsel n (.step i t) listed s h a w hG' hv1 hst hcl).2
    have i2 := (rop_draw hcx hQ hsel n u listed s h a w hG' hv2 hst hcl).2
    have hdep : ∀ f, (Ord.fork i t u).depth ≤ f → t.depth + 1 ≤ f ∧ u.depth ≤ f := by
      intro f hf
      simp only [Ord.depth] at hf
      split at hf
      · rename_i hb
        have := Nat.le_of_ble_eq_true hb
        omega
      · rename_i hb
        have : ¬ (t.depth + 1 ≤ u.depth) := fun hle => by rw [Nat.ble_eq_true_of_le hle] at hb; cases hb
        omega
    have alts : canonB cx ops false t (listed.setIfInBounds i true) = true → canonB cx ops true u listed = true → ∀ fuel, (Ord.fork i t u).depth ≤ fuel + 1 → ∀ j ∈ (Ord.fork i t u).heads, j ∈ Region.ready .any ops listed → wpOp P ops (Kx P cx w0 o0 Qf k) j (fun a' w' =>
      (writers cx ops j = true → wpAny P .any ops (Kx P cx w0 o0 Qf k) fuel (listed.setIfInBounds j true) a' w') ∧
      (writers cx ops j = false → Holds h w' ∧ anyX P .any ops (Kx P cx w0 o0 Qf k) (writers cx ops) (Holds h) fuel (listed.setIfInBounds j true) a' w')) a w := by
      intro c1 c2 fuel hle j hj hr
      obtain ⟨d1, d2⟩ := hdep _ hle
      simp only [Ord.heads, List.mem_cons] at hj
      rcases hj with rfl | hj
      · exact i1 (by simpa only [canonB] using c1) fuel (by simpa only [Ord.depth] using d1) j (by simp [Ord.heads]) hr
      · exact i2 c2 fuel d2 j hj hr
    refine ⟨fun hc fuel hle => ?_, fun hc fuel hle => ?_⟩
    · simp only [canonB, Bool.and_eq_true, Bool.false_or] at hc
      obtain ⟨⟨⟨hne, hall⟩, c1⟩, c2⟩ := hc
      cases fuel with
      | zero => exact absurd (hdep 0 hle).1 (by omega)
      | succ fuel =>
        refine ⟨fun h0 => (by rw [h0] at hne; simp at hne), fun j hj => ?_⟩
        exact alts c1 c2 fuel hle j (by simpa using List.all_eq_true.1 hall j hj) hj
    · simp only [canonB, Bool.and_eq_true, Bool.true_or, true_and] at hc
      exact alts hc.1 hc.2 fuel hle
  | n + 1, .step i is, listed, s, h, a, w, hG, hv, hst, hcl => by
    have hG' : Good P cx rs nt post w0 o0 Qf n k := fun m s h a w hm => hG m s h a w (Nat.lt_succ_of_lt hm)
    have one : ∀ (o : Oper), ops[i]? = some o → i ∈ Region.ready .any ops listed → canonB cx ops false is (listed.setIfInBounds i true) = true → ∀ fuel, is.depth ≤ fuel → wpOp P ops (Kx P cx w0 o0 Qf k) i (fun a' w' =>
      (writers cx ops i = true → wpAny P .any ops (Kx P cx w0 o0 Qf k) fuel (listed.setIfInBounds i true) a' w') ∧
      (writers cx ops i = false → Holds h w' ∧ anyX P .any ops (Kx P cx w0 o0 Qf k) (writers cx ops) (Holds h) fuel (listed.setIfInBounds i true) a' w')) a w := by
      intro o ho hr hrest fuel hle'
      refine op_step' hcx ho hv hst fun s' h' a' w' hext hv' hst' => ?_
      have ih := (rop_draw hcx hQ hsel n is (listed.setIfInBounds i true) s' h' a' w' hG' hv' hst' (hcl.set hr)).1 hrest fuel hle'
      refine ⟨fun _ => wpAny_of_anyX _ _ _ _ ih, fun hW => ?_⟩
      have hext := hext (by
        unfold writers at hW
        rw [ho] at hW
        exact hW)
      have hsub : ∀ w, Holds h' w → Holds h w := fun w ⟨ow, hw⟩ => ⟨ow, hw.mono hext⟩
      obtain ⟨ow, hw', _⟩ := hst'.own
      exact ⟨hsub _ ⟨ow, hw'⟩, anyX_weaken hsub _ _ _ _ ih⟩
    refine ⟨fun hc fuel hle => ?_, fun hc fuel hle j hj hr => ?_⟩
    · cases fuel with
      | zero => simp [Ord.depth] at hle
      | succ fuel =>
      have hle' : is.depth ≤ fuel := by simp [Ord.depth] at hle; omega
      simp only [canonB, Bool.and_eq_true] at hc
      obtain ⟨⟨hr, hcc⟩, hrest⟩ := hc
      have hr : i ∈ Region.ready .any ops listed := by simpa using hr
      have hQ' : ∀ (o : Oper) u, ∀ c a w, Kx P cx w0 o0 Qf k (.panic c) (a.put o.dst u) w → Kx P cx w0 o0 Qf k (.panic c) a w := by
        intro o u c a w hq
        rw [Kx_panic] at hq ⊢
        exact hQ c _ _ _ (put_defers _ _ _) hq
      cases ho : ops[i]? with
      | none => simp [ho] at hcc
      | some o =>
        simp only [ho] at hcc
        have hWi : ∀ b, isWrite cx o = b → writers cx ops i = b := by
          intro b hb; unfold writers; rw [ho]; exact hb
        have hsw : Holds h w := by obtain ⟨ow, hw, _⟩ := hst.own; exact ⟨ow, hw⟩
        split at hcc
        · rename_i hcls
          obtain ⟨u, s', y1, y2, hv', hst'⟩ := op_quiet hcx ho hv hst (.inl hcls)
          exact anyX_first_pure ho (Region.noSelect_spec hsel) (hQ' o u) (hWi false (by simp [isWrite, hcls])) fuel listed a w (Region.free_spec ho hcc) hr (y2 hcls) hsw
            ((rop_draw hcx hQ hsel n is _ s' h _ w hG' hv' hst' (hcl.set hr)).1 hrest fuel hle')
        · rename_i hcls
          obtain ⟨u, s', y1, y2, hv', hst'⟩ := op_quiet hcx ho hv hst (.inr hcls)
          simp only [Bool.and_eq_true] at hcc
          exact anyX_first ho (Region.noSelect_spec hsel) (hQ' o u) (hWi false (by simp [isWrite, hcls])) fuel listed a w hcl (writersWait_spec hcc.2) (Region.free_spec ho hcc.1) hr y1 hsw
            ((rop_draw hcx hQ hsel n is _ s' h _ w hG' hv' hst' (hcl.set hr)).1 hrest fuel hle')
        · rename_i hn1 hn2
          have hone : Region.ready .any ops listed = [i] := by
            have hlen : (Region.ready .any ops listed).length = 1 := by simpa using hcc
            match hrd : Region.ready .any ops listed, hlen with
            | [j], _ => rw [hrd] at hr; simp at hr; rw [hr]
          exact anyX_one hone (one o ho hr hrest fuel hle')
    · simp only [canonB] at hc
      simp only [Ord.heads, List.mem_singleton] at hj
      subst hj
      obtain ⟨_, o, ho, _⟩ := mem_ready.1 hr
      exact one o ho hr hc fuel (by simp [Ord.depth] at hle; omega)

end
end Ab
end Go
