/- Rows that grow: 'append', 'copy', 'make' of rows of numbers. -/
import Derived.Test.YtpggklkofilmfaaAbStillOps
import Derived.Laws.Append
import Derived.Lib.AppendStr
set_option linter.unusedSimpArgs false
set_option linter.unnecessarySimpa false
set_option linter.unusedVariables false
namespace Go
namespace Ab
variable {P : Program}

theorem Hp.get_del (t : Nat) : ∀ (h : Hp) (t' : Nat), (h.del t).get t' = if t' = t then none else h.get t'
  | [], t' => by simp [Hp.del, Hp.get]
  | (k, b, c) :: r, t' => by
    simp only [Hp.del]
    split
    · rename_i e
      have e := beq_true e
      subst e
      rw [Hp.get_del t r t']
      split
      · rfl
      · rename_i hne
        simp only [Hp.get]
        split
        · rename_i e; exact absurd (beq_true e) hne
        · rfl
    · rename_i e
      have e := beq_false e
      simp only [Hp.get]
      split
      · rename_i e'
        have e' := beq_true e'
        subst e'
        rw [if_neg (fun h => e h.symm)]
      · exact Hp.get_del t r t'

theorem Own.congr {h h' : Hp} (e : ∀ t, h.get t = h'.get t) {o : Nat → Option Ow} {w : World} (hw : Own h o w) : Own h' o w := ⟨hw.lt, fun t b c hg => hw.sat t b c (by rw [e]; exact hg)⟩
theorem Own.drop {h : Hp} {o : Nat → Option Ow} {w : World} (hw : Own h o w) (t : Nat) : Own (h.del t) o w := ⟨hw.lt, fun t' b c hg => by
  rw [Hp.get_del] at hg
  split at hg
  · cases hg
  · exact hw.sat t' b c hg⟩
/-- A block under another tag. -/
theorem Own.move {h : Hp} {o : Nat → Option Ow} {w : World} (hw : Own h o w) {t : Nat} {b : Blk} {c : Cont} (hg : h.get t = some (b, c)) {T : Nat} (hT : h.get T = none) :
    ∃ o', Own ((h.del t).put T b c) o' w ∧ Fr w o w o' := by
  have hne : t ≠ T := by rintro rfl; rw [hg] at hT; cases hT
  refine ⟨fun x => if o x = some (.tag t) then some (.tag T) else if o x = some (.tag T) then none else o x, ⟨fun x s hx => ?_, fun s b' c' hx => ?_⟩,
    ⟨Nat.le_refl _, fun x _ ho => ⟨by simp [ho], rfl⟩, fun x ho => ⟨by simp [ho], rfl⟩, rfl, rfl, rfl⟩⟩
  · split at hx
    · rename_i h; exact hw.lt x _ h
    · split at hx
      · cases hx
      · exact hw.lt x s hx
  · rw [Hp.get_put] at hx
    split at hx
    · rename_i e
      subst e
      cases hx
      refine Cont.sat_mono (fun z hz => ?_) (hw.sat t b c hg)
      obtain ⟨h1, h2⟩ := view_some.1 hz
      refine view_some.2 ⟨h1, ?_⟩
      rcases h2 with ⟨e1, e⟩ | ⟨e1, e⟩
      · exact .inl ⟨e1, by simp [e]⟩
      · exact .inr ⟨e1, by simp [e]⟩
    · rename_i e
      rw [Hp.get_del] at hx
      split at hx
      · cases hx
      · rename_i e2
        refine Cont.sat_mono (fun z hz => ?_) (hw.sat s b' c' hx)
        obtain ⟨h1, h2⟩ := view_some.1 hz
        refine view_some.2 ⟨h1, ?_⟩
        rcases h2 with ⟨e1, e3⟩ | ⟨e1, e3⟩
        · exact .inl ⟨e1, by simp [e3]⟩
        · refine .inr ⟨e1, ?_⟩
          rw [e3, if_neg (fun h => by cases h; exact e2 rfl), if_neg (fun h => by cases h; exact e rfl)]

/-- Nothing, under a new tag. -/
theorem Own.void {h : Hp} {o : Nat → Option Ow} {w : World} (hw : Own h o w) (T : Nat) (b : Blk) {c : Cont} (hc : ∀ f, c.sat b f) : Own (h.put T b c) o w := ⟨hw.lt, fun t' b' c' hg => by
  rw [Hp.get_put] at hg
  split at hg
  · cases hg; exact hc _
  · exact hw.sat t' b' c' hg⟩

theorem heap_setCells (b : Nat) : ∀ (vs : List Value) (off : Nat) (w : World) (l : List Value) (ty : TypeId) (fr : Nat × Nat), w.heap[b]? = some (.cells l.toArray ty fr) → off + vs.length ≤ l.length →
    (w.setCells b off vs).heap[b]? = some (.cells (splice l off vs).toArray ty fr) ∧ (∀ x, x ≠ b → (w.setCells b off vs).heap[x]? = w.heap[x]?) ∧
      (w.setCells b off vs).heap.size = w.heap.size ∧ (w.setCells b off vs).tape = w.tape ∧ (w.setCells b off vs).os = w.os ∧ (w.setCells b off vs).output = w.output
  | [], off, w, l, ty, fr, h, _ => ⟨h, fun _ _ => rfl, rfl, rfl, rfl, rfl⟩
  | v :: r, off, w, l, ty, fr, h, hle => by
    simp only [List.length_cons] at hle
    have h1 : (w.setCell ⟨b, off, none⟩ v).heap[b]? = some (.cells (l.set off v).toArray ty fr) := by
      simp [World.setCell, Array.getElem?_modify, h]
    obtain ⟨g1, g2, g3, g4, g5, g6⟩ := heap_setCells b r (off + 1) (w.setCell ⟨b, off, none⟩ v) (l.set off v) ty fr h1 (by simp; omega)
    refine ⟨by rw [World.setCells, splice]; exact g1, fun x hx => ?_, ?_, ?_, ?_, ?_⟩
    · rw [World.setCells, g2 x hx]
      simp [World.setCell, Array.getElem?_modify, Ne.symm hx]
    · rw [World.setCells, g3]; simp [World.setCell]
    · rw [World.setCells, g4]; rfl
    · rw [World.setCells, g5]; rfl
    · rw [World.setCells, g6]; rfl

theorem splice_mid (pre V post vs : List Value) (off : Nat) (h : off + vs.length ≤ V.length) : splice (pre ++ (V ++ post)) (pre.length + off) vs = pre ++ (splice V off vs ++ post) := by
  rw [splice_eq _ _ _ (by simp; omega), splice_eq _ _ _ h]
  rw [List.take_length_add_append, show pre.length + off + vs.length = pre.length + (off + vs.length) by omega, List.drop_length_add_append, List.take_append_of_le_length (by omega), List.drop_append_of_le_length (by omega)]
  simp
/-- Only one block turns, one that the tag owns: what the others see is as it was. -/
theorem Own.others {h : Hp} {o : Nat → Option Ow} {w w' : World} (hw : Own h o w) {t n : Nat} (hob : o n = some (.tag t)) (hoth : ∀ x, x ≠ n → w'.heap[x]? = w.heap[x]?) {t' : Nat} {b' : Blk} {c : Cont} (hne : t' ≠ t)
    (hg : h.get t' = some (b', c)) : c.sat b' (view w' o t' b'.n) := by
  refine Cont.sat_mono (fun z hz => ?_) (hw.sat t' b' c hg)
  obtain ⟨h1, h2⟩ := view_some.1 hz
  have : b'.n ≠ n := by
    intro e
    rw [e, hob] at h2
    rcases h2 with ⟨_, e⟩ | ⟨_, e⟩
    · cases e
    · cases e; exact hne rfl
  exact view_some.2 ⟨by rw [hoth _ this]; exact h1, h2⟩
theorem Own.store {h : Hp} {o : Nat → Option Ow} {w : World} (hw : Own h o w) {t : Nat} {b : Blk} {ty : TypeId} {l : List Cel} (hg : h.get t = some (b, .cells ty l)) (hro : b.ro = false)
    {off : Nat} {vs : List Value} (hle : off + vs.length ≤ (valsOf l).length) {l' : List Cel} (hl : valsOf l' = splice (valsOf l) off vs) (hok : ∀ c ∈ l', c.ok) :
    Own (h.put t b (.cells ty l')) o (w.setCells b.n (b.lo + off) vs) ∧ Fr w o (w.setCells b.n (b.lo + off) vs) o := by
  by_cases hne : valsOf l = []
  · have hvs : vs = [] := by
      cases vs with
      | nil => rfl
      | cons v r => simp [hne] at hle
    subst hvs
    refine ⟨⟨hw.lt, fun t' b' c hg' => ?_⟩, Fr.refl _ _⟩
    rw [Hp.get_put] at hg'
    split at hg'
    · cases hg'
      exact ⟨hok, .inl (by rw [hl, hne]; rfl)⟩
    · exact hw.sat t' b' c hg'
  obtain ⟨hob, _, hb, hf⟩ := hw.block hg hne
  have hob := hob hro
  obtain ⟨g1, g2, g3, g4, g5, g6⟩ := heap_setCells b.n vs (b.lo + off) w _ ty b.o.fr hb (by simp [Blk.lo]; omega)
  refine ⟨⟨fun x t' hx => by rw [g3]; exact hw.lt x t' hx, fun t' b' c hg' => ?_⟩, ⟨by omega, fun x _ ho => ⟨ho, g2 x (by rintro rfl; rw [hob] at ho; cases ho)⟩, fun x ho => ⟨ho, g2 x (by rintro rfl; rw [hob] at ho; cases ho)⟩, g4, g5, g6⟩⟩
  rw [Hp.get_put] at hg'
  split at hg'
  · rename_i ht
    subst ht
    cases hg'
    refine ⟨hok, .inr ⟨view_some.2 ⟨?_, .inr ⟨hro, hob⟩⟩, ?_⟩⟩
    · rw [g1, hl]
      unfold Blk.obj Blk.lo
      rw [splice_mid _ _ _ _ _ hle]
    · rw [hl, splice_length]; exact hf
  · rename_i ht
    exact hw.others hob g2 ht hg'

/-! ### What grows -/
theorem run_newRow' (w : World) (e : TypeId) (cells : Array Value) : (newRow e cells).run P w = .ok ⟨w.heap.size, 0, none⟩ { w with heap := w.heap.push (.cells cells e) } := rfl
theorem run_storeInts {h : Hp} {o : Nat → Option Ow} {w : World} (hw : Own h o w) {t : Nat} {b : Blk} {ty : TypeId} {k : IntKind} {m : Nat} {L : List Int} (hg : h.get t = some (b, .cells ty [.ints k m L])) (hro : b.ro = false)
    {off : Nat} {news : List Int} (hle : off + news.length ≤ m) :
    (storeCells (b.at off) (news.map (Value.int k))).run P w = .ok () (w.setCells b.n (b.lo + off) (news.map (Value.int k))) ∧
    Own (h.put t b (.cells ty [.ints k m (L.take off ++ (news ++ L.drop (off + news.length)))])) o (w.setCells b.n (b.lo + off) (news.map (Value.int k))) ∧ Fr w o (w.setCells b.n (b.lo + off) (news.map (Value.int k))) o := by
  have hL : L.length = m := hw.oks hg _ (List.mem_singleton.2 rfl)
  have hv : (valsOf [Cel.ints k m L]).length = m := by simp [Cel.vals, hL]
  have hat : ∀ j, (⟨b.n, b.lo + off + j, none⟩ : Addr) = b.at (off + j) := fun j => by unfold Blk.at; rw [Nat.add_assoc]
  have h1 := run_storeCells_cells (P := P) b.n (b.lo + off) (news.map (Value.int k)) 0 w (fun j hj => by
    rw [Nat.add_zero, hat, hw.cell hg (i := off + j) (v := (valsOf [Cel.ints k m L])[off + j]'(by rw [hv]; simp at hj; omega)) (by rw [List.getElem?_eq_getElem])]; rfl)
    (fun j hj => by rw [Nat.add_zero, hat]; exact hw.notFrozen hg (by rw [hv]; simp at hj; omega)) (fun x hx => by simp only [List.mem_map] at hx; obtain ⟨_, _, rfl⟩ := hx; rfl)
  obtain ⟨h2, h3⟩ := hw.store hg hro (off := off) (vs := news.map (Value.int k)) (by rw [hv]; simp; omega) (l' := [.ints k m (L.take off ++ (news ++ L.drop (off + news.length)))]) (by
    rw [splice_eq _ _ _ (by rw [hv]; simp; omega)]
    simp [Cel.vals]) (by simp [Cel.ok, hL]; omega)
  exact ⟨by simpa [Blk.at] using h1, h2, h3⟩

theorem fits_take {L olds news : List Int} {off n m : Nat} (hL : L.length = m) (ho : olds = (L.drop off).take n) (hon : olds.length = n) (hle : off + n + news.length ≤ m) :
    ((L.take (off + n) ++ (news ++ L.drop (off + n + news.length))).drop off).take (n + news.length) = olds ++ news := by
  have h1 : (L.take (off + n) ++ (news ++ L.drop (off + n + news.length))).drop off = (L.drop off).take n ++ (news ++ L.drop (off + n + news.length)) := by
    rw [List.drop_append_of_le_length (by simp; omega), List.drop_take]
    congr 2; omega
  rw [h1, ← ho, ← List.append_assoc, List.take_left' (by simp [hon])]

theorem baseInts_spec {h : Hp} {o : Nat → Option Ow} {w : World} (hw : Own h o w) {k : IntKind} {X : SV} {p : C} {n c : Nat} {olds : List Int} {h' : Hp} (hb : baseInts h k X = some (p, n, c, olds, h')) (hp : p.holds)
    {T : Nat} (hT : h.get T = none) :
    ∃ base, X.den = .slice base n c ∧ olds.length = n ∧ n ≤ c ∧ (∀ {w : World}, Own h o w → (Builtin.firstCells 1 n (.slice base n c)).run P w = .ok (olds.map (Value.int k)).toArray w) ∧ h'.get T = none ∧ Hext h' h ∧
      ∀ news : List Int, n + news.length ≤ c → ∃ (r : ApR) (w' : World) (o' : Nat → Option Ow),
        ((match base with | some a => storeCells (a.add (n * 1)) (news.map (Value.int k)) | none => pure ()) : Sem Unit).run P w = .ok () w' ∧ base = baseOf r.b r.off r.z ∧ r.cap = c ∧ r.fits (n + news.length) (olds ++ news) ∧
        Own (h'.put T r.b (.cells r.y [.ints k r.m r.L])) o' w' ∧ Fr w o w' o' := by
  have empty : ∀ (base : Option Addr), base = none → n = 0 → c = 0 → olds = [] → h' = h → X.den = .slice base n c → ∃ base, X.den = .slice base n c ∧ olds.length = n ∧ n ≤ c ∧ (∀ {w : World}, Own h o w → (Builtin.firstCells 1 n (.slice base n c)).run P w = .ok (olds.map (Value.int k)).toArray w) ∧ h'.get T = none ∧ Hext h' h ∧
      ∀ news : List Int, n + news.length ≤ c → ∃ (r : ApR) (w' : World) (o' : Nat → Option Ow),
        ((match base with | some a => storeCells (a.add (n * 1)) (news.map (Value.int k)) | none => pure ()) : Sem Unit).run P w = .ok () w' ∧ base = baseOf r.b r.off r.z ∧ r.cap = c ∧ r.fits (n + news.length) (olds ++ news) ∧
        Own (h'.put T r.b (.cells r.y [.ints k r.m r.L])) o' w' ∧ Fr w o w' o' := by
    rintro base rfl rfl rfl rfl rfl hX
    refine ⟨none, hX, rfl, Nat.le_refl _, fun _ => by rw [run_firstCells_none]; rfl, hT, Hext.refl _, fun news hn => ?_⟩
    have : news = [] := List.eq_nil_of_length_eq_zero (by omega)
    subst this
    exact ⟨⟨0, 0, 0, 0, 1, 0, []⟩, w, o, rfl, rfl, rfl, ⟨Nat.le_refl _, Nat.le_refl _, .inr rfl, rfl, rfl⟩, hw.void T _ (fun f => ⟨by simp [Cel.ok], .inl rfl⟩), Fr.refl _ _⟩
  unfold baseInts at hb
  split at hb
  · rename_i t b off nn cc z
    split at hb
    · rename_i b' ty k' m L hg
      split at hb
      · rename_i hk
        cases kindEq_true hk
        simp only [Option.some.injEq, Prod.mk.injEq] at hb
        obtain ⟨rfl, rfl, rfl, rfl, rfl⟩ := hb
        obtain ⟨rfl, hro, h1, h2, h3⟩ := hp
        obtain ⟨b, ro⟩ := b
        have hro : ro = false := hro
        subst hro
        have hL : L.length = m := hw.oks hg _ (List.mem_singleton.2 rfl)
        have hTt : T ≠ t := by rintro rfl; rw [hg] at hT; cases hT
        have hol : ((L.drop off).take nn).length = nn := by simp; omega
        have hTd : (h.del t).get T = none := by rw [Hp.get_del, if_neg hTt]; exact hT
        have hext : Hext (h.del t) h := fun t' b' c' hg' => by
          rw [Hp.get_del] at hg'
          split at hg'
          · cases hg'
          · exact ⟨c', hg', fun _ h => h⟩
        cases z with
        | zero =>
          refine ⟨some ((⟨b, false⟩ : Blk).at off), rfl, hol, h2, fun {w} hw => ?_, hTd, hext, fun news hn => ?_⟩
          · refine run_firstCells_some w 1 nn ((⟨b, false⟩ : Blk).at off) nn cc _ (by simp; omega) fun i v hv => ?_
            rw [Blk.add_at]
            refine hw.cell hg ?_
            simp only [valsOf_cons, valsOf_nil, List.append_nil, Cel.vals]
            rw [List.getElem?_map, List.getElem?_take] at hv
            split at hv
            · rw [List.getElem?_drop] at hv
              rw [List.getElem?_map]; exact hv
            · simp at hv
          · obtain ⟨g1, g2, g3⟩ := run_storeInts (P := P) hw hg rfl (off := off + nn) (news := news) (by omega)
            obtain ⟨o', g4, g5⟩ := g2.move (t := t) (T := T) (by rw [Hp.get_put, if_pos rfl]) (by rw [Hp.get_put, if_neg hTt]; exact hT)
            refine ⟨⟨b, off, cc, m, 0, ty, L.take (off + nn) ++ (news ++ L.drop (off + nn + news.length))⟩, _, o', ?_, rfl, rfl, ⟨h1, (by show _ ≤ cc; omega), .inl rfl, ?_, ?_⟩, ?_, g3.trans g5⟩
            · simp only [Nat.mul_one, Blk.add_at]; exact g1
            · simp [hL]; omega
            · exact fits_take (off := off) (m := m) hL rfl hol (by omega)
            · refine g4.congr fun t' => ?_
              rw [Hp.get_put, Hp.get_put, Hp.get_del, Hp.get_del, Hp.get_put]
              by_cases e1 : t' = T
              · simp [e1]
              · by_cases e2 : t' = t <;> simp [e1, e2]
        | succ z =>
          have hc : cc = 0 := by omega
          subst hc
          have hn0 : nn = 0 := by omega
          subst hn0
          refine ⟨none, rfl, rfl, Nat.le_refl _, fun _ => by rw [run_firstCells_none]; rfl, hTd, hext, fun news hn => ?_⟩
          have : news = [] := List.eq_nil_of_length_eq_zero (by omega)
          subst this
          obtain ⟨o', g4, g5⟩ := hw.move hg hT
          exact ⟨⟨b, off, 0, m, z + 1, ty, L⟩, w, o', rfl, rfl, rfl, ⟨h1, Nat.le_refl _, .inr rfl, hL, rfl⟩, g4, g5⟩
      · cases hb
    · rename_i b' hg
      simp only [Option.some.injEq, Prod.mk.injEq] at hb
      obtain ⟨rfl, rfl, rfl, rfl, rfl⟩ := hb
      obtain ⟨rfl, rfl, rfl⟩ := hp
      exact empty none rfl rfl rfl rfl rfl rfl
    · cases hb
  · simp only [Option.some.injEq, Prod.mk.injEq] at hb
    obtain ⟨rfl, rfl, rfl, rfl, rfl⟩ := hb
    obtain ⟨rfl, rfl⟩ := hp
    exact empty none rfl rfl rfl rfl rfl rfl
  · cases hb

/-! ### The operations -/
set_option maxHeartbeats 1000000 in
theorem run_append {h : Hp} {o : Nat → Option Ow} {w : World} (hw : Own h o w) {t e t2 ty : TypeId} {ti ie ti2 : TI} (ht : TyOk P t ti) (hd : ti.und = .slice e) (he : TyOk P e ie) {k : IntKind} (hk : ie.und = .int k)
    (hsz : ie.size = 1) (hz : ie.zero = [.v (.int k 0)]) (h2 : TyOk P t2 ti2) {X Y : SV} {p q : C} {n c m : Nat} {olds news : List Int} {h' : Hp} (hb : baseInts h k X = some (p, n, c, olds, h')) (hp : p.holds)
    {zs : Bool} (hzo : zerosOf ti2.und = some zs) (hs : addInts h k zs Y = some (q, m, news)) (hq : q.holds) (hby : 0 < ie.bytes) (hroom : (n + m) * ie.bytes ≤ 70368744177664) {T : Nat} (hT : h.get T = none) :
    ∃ (r : ApR) (w' : World) (o' : Nat → Option Ow), (Builtin.append_ #[t, t2] ty #[X.den, Y.den]).run P w = .ok (.slice (baseOf r.b r.off r.z) (n + m) r.cap) w' ∧ r.fits (n + m) (olds ++ news) ∧
      Own (h'.put T r.b (.cells r.y [.ints k r.m r.L])) o' w' ∧ Fr w o w' o' := by
  obtain ⟨base, hX, hol, hnc, hfirst, hT', hext, hin⟩ := baseInts_spec (P := P) hw hb hp hT
  have hzero : ie.zeroV.cells = #[.int k 0] := by rw [he.zcells, hz]; rfl
  obtain ⟨x, hx1, hx2, hx3, hx4⟩ := he.info
  have hbx : 0 < x.bytes := by omega
  have hsmall : n + m ≤ 70368744177664 := Nat.le_trans (Nat.le_mul_of_pos_right _ hby) hroom
  have hzc : ∀ j, Builtin.zeroCells ie.zeroV.cells j = ((List.replicate j 0).map (Value.int k)).toArray := by
    intro j
    apply Array.ext'
    simp [Builtin.zeroCells, hzero]
    apply List.ext_getElem
    · simp
    · intro i h1 h2
      simp [Nat.mod_one]
  -- the row that is new
  have grown : ∀ w1 : World, Own h o w1 → ∀ cap, n + m ≤ cap → news.length = m → ∃ o', Own (h'.put T (newB w1) (.cells e [.ints k cap (olds ++ (news ++ List.replicate (cap - (n + m)) 0))])) o'
      { w1 with heap := w1.heap.push (.cells ((olds.map (Value.int k)).toArray ++ (news.map (Value.int k)).toArray ++ Builtin.zeroCells ie.zeroV.cells (cap - (n + m))) e) } ∧
      Fr w1 o { w1 with heap := w1.heap.push (.cells ((olds.map (Value.int k)).toArray ++ (news.map (Value.int k)).toArray ++ Builtin.zeroCells ie.zeroV.cells (cap - (n + m))) e) } o' := by
    intro w1 hw1 cap hcap hnl
    have := (hw1.mono hext).alloc hT' (ty := e) (l := [.ints k cap (olds ++ (news ++ List.replicate (cap - (n + m)) 0))]) (by simp [Cel.ok, hol, hnl]; omega) (fr := (0, 0)) (.inl rfl)
    rw [show (valsOf [.ints k cap (olds ++ (news ++ List.replicate (cap - (n + m)) 0))]).toArray = (olds.map (Value.int k)).toArray ++ (news.map (Value.int k)).toArray ++ Builtin.zeroCells ie.zeroV.cells (cap - (n + m)) by
      rw [hzc]; simp [Cel.vals]] at this
    exact this
  have hfits : ∀ cap, n + m ≤ cap → news.length = m → (⟨newB w, 0, cap, cap, 0, e, olds ++ (news ++ List.replicate (cap - (n + m)) 0)⟩ : ApR).fits (n + m) (olds ++ news) := by
    intro cap hcap hnl
    refine ⟨by show 0 + cap ≤ cap; omega, hcap, .inl rfl, by simp [hol, hnl]; omega, ?_⟩
    show ((olds ++ (news ++ List.replicate (cap - (n + m)) 0)).drop 0).take (n + m) = _
    rw [List.drop_zero, ← List.append_assoc, List.take_left' (by simp [hol, hnl])]
  have hund := run_und ht w
  have hund2 := run_und h2 w
  rw [hd] at hund
  unfold addInts at hs
  split at hs
  · -- a slice or a text
    obtain ⟨hnl, hlen, hsrc⟩ := srcInts_spec (P := P) hw hs hq
    have hf := hsrc m (Nat.le_refl _)
    rw [List.take_of_length_le (by omega)] at hf
    by_cases hc : n + m ≤ c
    · obtain ⟨r, w', o', g1, g2, g3, g4, g5, g6⟩ := hin news (by omega)
      refine ⟨r, w', o', ?_, by rw [← hnl]; exact g4, g5, g6⟩
      rw [hX, g3, ← g2]
      unfold zerosOf at hzo
      split at hzo
      · cases hzo
      · rename_i hu
        rw [hu] at hund2
        cases base with
        | none => simp [Builtin.append_, hund, hund2, sizeOf, typeInfo, hx1, hx2, hsz, hlen, hc, hf] at g1 ⊢; exact g1
        | some a => simp [Builtin.append_, hund, hund2, sizeOf, typeInfo, hx1, hx2, hsz, hlen, hc, hf] at g1 ⊢; simp [g1]
      · rename_i hu
        rw [hu] at hund2
        cases base with
        | none => simp [Builtin.append_, hund, hund2, sizeOf, typeInfo, hx1, hx2, hsz, hlen, hc, hf] at g1 ⊢; exact g1
        | some a => simp [Builtin.append_, hund, hund2, sizeOf, typeInfo, hx1, hx2, hsz, hlen, hc, hf] at g1 ⊢; simp [g1]
      · cases hzo
    · have hwd : Own h o w.drew := hw.drew _
      have hfd := (srcInts_spec (P := P) hwd hs hq).2.2 m (Nat.le_refl _)
      rw [List.take_of_length_le (by omega)] at hfd
      have hcap := grownCap_ge w (n + m) c e
      obtain ⟨o', g1, g2⟩ := grown w.drew hwd _ hcap hnl
      refine ⟨⟨newB w, 0, grownCap w (n + m) c e, grownCap w (n + m) c e, 0, e, _⟩, _, o', ?_, hfits _ hcap hnl, g1, ⟨g2.size, g2.old, g2.ro, g2.tape, g2.os, g2.out⟩⟩
      have h63 : ¬ (9223372036854775807 < ((n : Int) + (m : Int))) := by omega
      have h48 : ¬ (281474976710656 < Builtin.nextslicecap (n + m) c * ie.bytes) := by
        have := growslice_fits (need := n + m) (old := c) (bytes := ie.bytes) (by omega) (by omega)
        omega
      have h0 : (baseOf (newB w) 0 0) = some ⟨w.heap.size, 0, none⟩ := rfl
      have hfb := hfirst hwd
      rw [hX]
      unfold zerosOf at hzo
      split at hzo
      · cases hzo
      · rename_i hu
        rw [hu] at hund2
        simp [Builtin.append_, hund, hund2, sizeOf, typeInfo, zeroValue, hx1, hx2, hx3, hx4, hsz, hlen, hc, hfd, hfb, h63, h48, Question.forced, newRow, h0]
        exact ⟨rfl, by simp only [← Array.append_assoc, List.append_toArray]; rfl⟩
      · rename_i hu
        rw [hu] at hund2
        simp [Builtin.append_, hund, hund2, sizeOf, typeInfo, zeroValue, hx1, hx2, hx3, hx4, hsz, hlen, hc, hfd, hfb, h63, h48, Question.forced, newRow, h0]
        exact ⟨rfl, by simp only [← Array.append_assoc, List.append_toArray]; rfl⟩
      · cases hzo
  · -- zeros
    unfold zerosOf at hzo
    split at hzo
    case h_2 => cases hzo
    case h_3 => cases hzo
    case h_4 => cases hzo
    rename_i kk hu
    rw [hu] at hund2
    split at hs
    case h_2 => cases hs
    rename_i k' i
    simp only [Option.some.injEq, Prod.mk.injEq] at hs
    obtain ⟨rfl, rfl, rfl⟩ := hs
    obtain ⟨i0, i1⟩ := hq
    obtain ⟨m, rfl⟩ : ∃ m : Nat, i = m := ⟨i.toNat, by omega⟩
    simp only [Int.toNat_natCast] at *
    have hY : (SV.c (.v (.int k' m))).den = .int k' m := rfl
    have hwrap : IntKind.i64.wrap (m : Int) = m := by rw [IntKind.wrap_i64]; omega
    have hnl : (List.replicate m (0 : Int)).length = m := List.length_replicate
    have hneg : ¬ ((m : Int) < 0) := by omega
    have hmb : m * ie.bytes ≤ 70368744177664 := Nat.le_trans (Nat.mul_le_mul_right _ (by omega)) hroom
    have hbig : ¬ (281474976710656 < (m : Int) * (ie.bytes : Int)) := by
      rw [← Int.natCast_mul]; omega
    by_cases hc : n + m ≤ c
    · obtain ⟨r, w', o', g1, g2, g3, g4, g5, g6⟩ := hin (List.replicate m 0) (by rw [hnl]; exact hc)
      refine ⟨r, w', o', ?_, by rw [hnl] at g4; exact g4, g5, g6⟩
      rw [hX, g3, ← g2, hY]
      have hzl : (Builtin.zeroCells ie.zeroV.cells m).toList = (List.replicate m 0).map (Value.int k) := by rw [hzc]
      rw [← hzl] at g1
      by_cases hi : m = 0
      · subst hi
        have hz0 : (Builtin.zeroCells ie.zeroV.cells 0).toList = [] := by rw [hzc]; rfl
        rw [hz0] at g1
        have hc : n ≤ c := hc
        have hwrap : IntKind.i64.wrap 0 = 0 := by decide
        cases base with
        | none => simp [Builtin.append_, hund, hund2, sizeOf, typeInfo, hx1, hx2, hx3, hsz, asInt, asIntOf, hwrap, hc] at g1 ⊢; exact g1
        | some a => simp [Builtin.append_, hund, hund2, sizeOf, typeInfo, hx1, hx2, hx3, hsz, asInt, asIntOf, hwrap, hc] at g1 ⊢; simp [g1]
      · cases base with
        | none => simp [Builtin.append_, hund, hund2, sizeOf, typeInfo, hx1, hx2, hx3, hx4, hsz, asInt, asIntOf, hwrap, hneg, hbig, hc, hi, zeroValue] at g1 ⊢; exact g1
        | some a => simp [Builtin.append_, hund, hund2, sizeOf, typeInfo, hx1, hx2, hx3, hx4, hsz, asInt, asIntOf, hwrap, hneg, hbig, hc, hi, zeroValue] at g1 ⊢; simp [g1]
    · have hwd : Own h o w.drew := hw.drew _
      have hcap := grownCap_ge w (n + m) c e
      obtain ⟨o', g1, g2⟩ := grown w.drew hwd _ hcap hnl
      refine ⟨⟨newB w, 0, grownCap w (n + m) c e, grownCap w (n + m) c e, 0, e, _⟩, _, o', ?_, hfits _ hcap hnl, g1, ⟨g2.size, g2.old, g2.ro, g2.tape, g2.os, g2.out⟩⟩
      have h63 : ¬ (9223372036854775807 < ((n : Int) + (m : Int))) := by omega
      have h48 : ¬ (281474976710656 < Builtin.nextslicecap (n + m) c * ie.bytes) := by
        have := growslice_fits (need := n + m) (old := c) (bytes := ie.bytes) (by omega) (by omega)
        omega
      have h0 : (baseOf (newB w) 0 0) = some ⟨w.heap.size, 0, none⟩ := rfl
      have hfb := hfirst hwd
      rw [hX, hY]
      have hi : m ≠ 0 := by omega
      rw [← hzc]
      simp [Builtin.append_, hund, hund2, sizeOf, typeInfo, zeroValue, hx1, hx2, hx3, hx4, hsz, asInt, asIntOf, hwrap, hneg, hbig, hc, hfb, hi, h63, h48, Question.forced, newRow, h0]
      exact ⟨rfl, by simp only [← Array.append_assoc]; rfl⟩

theorem run_copy {h : Hp} {o : Nat → Option Ow} {w : World} (hw : Own h o w) {t e t2 ty : TypeId} {ti ie : TI} (ht : TyOk P t ti) (hd : ti.und = .slice e) (he : TyOk P e ie) (hsz : ie.size = 1)
    {k : IntKind} {tg : Nat} {b : Blk} {off n c z m : Nat} {yy : TypeId} {L : List Int} (hg : h.get tg = some (b, .cells yy [.ints k m L])) (hro : b.ro = false) (hle : off + n ≤ m) (hz : z = 0 ∨ n = 0)
    {Y : SV} {q : C} {ny : Nat} {news : List Int} (hs : srcInts h k Y = some (q, ny, news)) (hq : q.holds) :
    ∃ w', (Builtin.copy_ #[t, t2] ty #[.slice (baseOf b off z) n c, Y.den]).run P w = .ok (.int .i64 (min ny n : Nat)) w' ∧
      Own (h.put tg b (.cells yy [.ints k m (L.take off ++ (news.take (min ny n) ++ L.drop (off + min ny n)))])) o w' ∧ Fr w o w' o := by
  have hund := run_und ht w
  rw [hd] at hund
  obtain ⟨x, hx1, hx2, hx3, hx4⟩ := he.info
  obtain ⟨hnl, hlen, hsrc⟩ := srcInts_spec (P := P) hw hs hq
  have hf := hsrc (min ny n) (Nat.min_le_left _ _)
  have hnl' : (news.take (min ny n)).length = min ny n := by rw [List.length_take, hnl]; omega
  have hmin : Nat.min ny n = min ny n := rfl
  cases z with
  | zero =>
    obtain ⟨g1, g2, g3⟩ := run_storeInts (P := P) hw hg hro (off := off) (news := news.take (min ny n)) (by rw [hnl']; omega)
    rw [hnl'] at g2
    refine ⟨_, ?_, g2, g3⟩
    simp [Builtin.copy_, hund, sizeOf, typeInfo, hx1, hx2, hsz, hlen, hmin, hf, baseOf, goInt]
    rw [List.map_take] at g1
    rw [g1]; rfl
  | succ z =>
    have hn : n = 0 := by omega
    subst hn
    refine ⟨w, ?_, ?_, Fr.refl _ _⟩
    · have : min ny 0 = 0 := by omega
      rw [this] at hf
      simp [Builtin.copy_, hund, sizeOf, typeInfo, hx1, hx2, hsz, hlen, hmin, hf, baseOf, goInt]
    · have : min ny 0 = 0 := by omega
      rw [this]
      refine hw.congr fun t' => ?_
      rw [Hp.get_put]
      split
      · rename_i e; subst e; rw [hg]; simp
      · rfl

theorem run_toBytes {sr t e : TypeId} {tsr ti ie : TI} (hsr : TyOk P sr tsr) (hds : tsr.und = .string) (ht : TyOk P t ti) (hd : ti.und = .slice e) (he : TyOk P e ie) (hu : ie.und = .int .u8) (y : ByteArray)
    {h : Hp} {o : Nat → Option Ow} {w : World} (hw : Own h o w) {T : Nat} (hT : h.get T = none) :
    ∃ (r : ApR) (w' : World) (o' : Nat → Option Ow), (Go.convert sr t (.string y)).run P w = .ok (.slice (baseOf r.b r.off r.z) y.size r.cap) w' ∧ r.fits y.size (strInts y) ∧
      Own (h.put T r.b (.cells r.y [.ints .u8 r.m r.L])) o' w' ∧ Fr w o w' o' := by
  have h1 := hsr.und
  have h2 := ht.und
  have h3 := he.und
  rw [hds] at h1
  rw [hd] at h2
  rw [hu] at h3
  have hcap := grownCap_ge w y.size 0 e
  have hlen := strInts_length y
  have hwd : Own h o w.drew := hw.drew _
  have hv : (valsOf [Cel.ints .u8 (grownCap w y.size 0 e) (strInts y ++ List.replicate (grownCap w y.size 0 e - y.size) 0)]).length = grownCap w y.size 0 e := by simp [Cel.vals, hlen]; omega
  obtain ⟨o', g1, g2⟩ := hwd.alloc hT (ty := e) (l := [.ints .u8 (grownCap w y.size 0 e) (strInts y ++ List.replicate (grownCap w y.size 0 e - y.size) 0)]) (by simp [Cel.ok, hlen]; omega) (fr := (grownCap w y.size 0 e, grownCap w y.size 0 e + 1)) (.inr (by rw [hv]; exact Nat.le_refl _))
  refine ⟨⟨⟨w.heap.size, (grownCap w y.size 0 e, grownCap w y.size 0 e + 1), [], []⟩, 0, grownCap w y.size 0 e, grownCap w y.size 0 e, 0, e, strInts y ++ List.replicate (grownCap w y.size 0 e - y.size) 0⟩, _, o', ?_, ⟨by show 0 + _ ≤ _; simp, hcap, .inl rfl, by simp [hlen]; omega, ?_⟩, g1, ⟨g2.size, g2.old, g2.ro, g2.tape, g2.os, g2.out⟩⟩
  · have hcells : (y.data.map (fun b => Value.int .u8 b.toNat) ++ Array.replicate (grownCap w y.size 0 e - y.size) (.int .u8 0)) = (valsOf [.ints .u8 (grownCap w y.size 0 e) (strInts y ++ List.replicate (grownCap w y.size 0 e - y.size) 0)]).toArray := by
      apply Array.ext'
      simp [Cel.vals, strInts]
    have hsz : (valsOf [Cel.ints .u8 (grownCap w y.size 0 e) (strInts y ++ List.replicate (grownCap w y.size 0 e - y.size) 0)]).toArray.size = grownCap w y.size 0 e := by simpa using hv
    have : (Go.convert sr t (.string y)).run P w = (Conv.stringToBytes e y).run P w := by
      simp [Go.convert, run_underlying h1, run_underlying h2, run_underlying h3]
    rw [this]
    unfold Conv.stringToBytes
    have hch : (choose (.appendCap y.size 0 e)).run P w = .ok (grownCap w y.size 0 e) w.drew := by
      simp [Question.forced, grownCap]
    simp only [Sem.run_bind, hch, Result.andThen_ok, run_newRow', hcells]
    generalize hcs : (valsOf [Cel.ints .u8 (grownCap w y.size 0 e) (strInts y ++ List.replicate (grownCap w y.size 0 e - y.size) 0)]).toArray = cs at hsz ⊢
    generalize hgc : grownCap w y.size 0 e = N at hsz ⊢
    have hmark : (markStringish ⟨w.drew.heap.size, 0, none⟩).run P { w.drew with heap := w.drew.heap.push (.cells cs e) } = .ok () { w.drew with heap := w.drew.heap.push (.cells cs e (N, N + 1)) } := by
      unfold markStringish
      simp only [Sem.run_bind, run_shape, Result.andThen_ok, World.shape?]
      simp only [Array.getElem?_push_size, hsz]
      simp only [run_freeze, World.freeze]
      simp
      apply Array.ext
      · simp
      · intro i h1 h2
        simp only [Array.getElem_modify, Array.getElem_push]
        by_cases hi : i = w.drew.heap.size
        · subst hi; simp
        · have hi : i ≠ w.heap.size := hi
          have : i < w.heap.size := by simp at h2; omega
          simp [this, Ne.symm hi]
    rw [hmark]
    rfl
  · show ((strInts y ++ List.replicate _ 0).drop 0).take y.size = _
    rw [List.drop_zero, List.take_left' hlen]

theorem run_sameBytes {t e : TypeId} {ti ie : TI} (ht : TyOk P t ti) (hd : ti.und = .slice e) (he : TyOk P e ie) (hu : ie.und = .int .u8) {h : Hp} {o : Nat → Option Ow} {w : World} (hw : Own h o w)
    {tg : Nat} {b : Blk} {m : Nat} {yy : TypeId} {k : IntKind} {L : List Int} (hg : h.get tg = some (b, .cells yy [.ints k (m + 1) L])) (hro : b.ro = false) (hbp : b.o.plain) (off n c : Nat) :
    ∃ w', (Go.convert t t (.slice (some (b.at off)) n c)).run P w = .ok (.slice (some (((b.o.marked (m + 1) : BlkO) : Blk).at off)) n c) w' ∧ Own (h.put tg ((b.o.marked (m + 1) : BlkO) : Blk) (.cells yy [.ints k (m + 1) L])) o w' ∧ Fr w o w' o := by
  have h2 := ht.und
  have h3 := he.und
  rw [hd] at h2
  rw [hu] at h3
  have hL : L.length = m + 1 := hw.oks hg _ (List.mem_singleton.2 rfl)
  have hv : (valsOf [Cel.ints k (m + 1) L]).length = m + 1 := by simp [Cel.vals, hL]
  obtain ⟨hob, _, hb, hf⟩ := hw.block hg (by intro e; rw [e] at hv; cases hv)
  have hob := hob hro
  obtain ⟨b, rfl⟩ : ∃ n, b = ⟨⟨n, (0, 0), [], []⟩, false⟩ := ⟨b.o.n, by obtain ⟨o', r⟩ := b; cases hro; have : o' = _ := hbp; rw [this]⟩
  have hb : w.heap[b]? = some (.cells (valsOf [Cel.ints k (m + 1) L]).toArray yy (0, 0)) := by simpa [Blk.obj, Blk.n] using hb
  have hat : (⟨⟨b, (0, 0), [], []⟩, false⟩ : Blk).at off = ⟨b, off, none⟩ := by simp [Blk.at, Blk.lo, Blk.n]
  have hat' : ((((⟨⟨b, (0, 0), [], []⟩, false⟩ : Blk).o.marked (m + 1) : BlkO) : Blk)).at off = ⟨b, off, none⟩ := by simp [Blk.at, Blk.lo, BlkO.marked, Blk.n]
  have hob : o b = some (.tag tg) := hob
  rw [hat, hat']
  have hrun : (Go.convert t t (.slice (some ⟨b, off, none⟩) n c)).run P w = .ok (.slice (some ⟨b, off, none⟩) n c) (w.freeze ⟨b, m + 1, none⟩ 1) := by
    have hsh : w.shape? b = some (yy, m + 1) := by
      simp only [World.shape?, hb]
      simpa using hv
    simp only [Go.convert, Sem.run_bind, run_underlying h2, run_underlying h3, Result.andThen_ok, beq_self_eq_true, markStringish, run_shape, hsh, run_freeze, Sem.run_pure]
  have hfr : (w.freeze ⟨b, m + 1, none⟩ 1).heap[b]? = some (.cells (valsOf [.ints k (m + 1) L]).toArray yy (m + 1, m + 1 + 1)) := by
    simp [World.freeze, Array.getElem?_modify, hb]
  have hoth : ∀ x, x ≠ b → (w.freeze ⟨b, m + 1, none⟩ 1).heap[x]? = w.heap[x]? := by
    intro x hx
    simp [World.freeze, Array.getElem?_modify, Ne.symm hx]
  have hsz : (w.freeze ⟨b, m + 1, none⟩ 1).heap.size = w.heap.size := by simp [World.freeze]
  refine ⟨_, hrun, ⟨fun x t hx => by rw [hsz]; exact hw.lt x t hx, fun s b' c' hx => ?_⟩, ⟨by omega, fun x _ ho => ⟨ho, hoth x (by rintro rfl; rw [hob] at ho; cases ho)⟩, fun x ho => ⟨ho, hoth x (by rintro rfl; rw [hob] at ho; cases ho)⟩, rfl, rfl, rfl⟩⟩
  rw [Hp.get_put] at hx
  split at hx
  · rename_i hs
    subst hs
    cases hx
    refine ⟨hw.oks hg, .inr ⟨view_some.2 ⟨?_, .inr ⟨rfl, hob⟩⟩, fun i hi => ?_⟩⟩
    · simpa [Blk.obj, BlkO.marked, Blk.n] using hfr
    · rw [hv] at hi
      simp only [BlkO.marked, Blk.lo, List.length_nil]
      omega
  · rename_i hs
    exact hw.others hob hoth hs hx

theorem run_make {t e : TypeId} {ti ie : TI} (ht : TyOk P t ti) (hd : ti.und = .slice e) (he : TyOk P e ie) {k : IntKind} (hsz : ie.size = 1) (hz : ie.zero = [.v (.int k 0)]) {kl kc : IntKind} {l c : Int}
    (h0 : 0 ≤ l) (h1 : l ≤ c) (h2 : c * ie.bytes ≤ 70368744177664) (h3 : c ≤ 70368744177664) (w : World) :
    (Instr.makeSlice t (.int kl l) (.int kc c)).run P w = .ok (.slice (baseOf (newB w) 0 0) l.toNat c.toNat)
      { w with heap := w.heap.push (.cells (valsOf [.ints k c.toNat (List.replicate c.toNat 0)]).toArray e) } := by
  obtain ⟨c, rfl⟩ : ∃ m : Nat, c = m := ⟨c.toNat, by omega⟩
  obtain ⟨l, rfl⟩ : ∃ m : Nat, l = m := ⟨l.toNat, by omega⟩
  have hund := run_und ht w
  rw [hd] at hund
  obtain ⟨x, hx1, hx2, hx3, hx4⟩ := he.info
  have hzero : ie.zeroV.cells = #[.int k 0] := by rw [he.zcells, hz]; rfl
  have wl : IntKind.i64.wrap (l : Int) = l := by rw [IntKind.wrap_i64]; omega
  have wc : IntKind.i64.wrap (c : Int) = c := by rw [IntKind.wrap_i64]; omega
  have n2 : ¬ (281474976710656 < (ie.bytes : Int) * (c : Int)) := by rw [Int.mul_comm]; omega
  have n3 : ¬ ((l : Int) < 0) := by omega
  have n1 : ¬ ((c : Int) < 0) := by omega
  have n4 : ¬ ((c : Int) < (l : Int)) := by omega
  have n4' : ¬ (c < l) := by omega
  have n5 : ¬ (140737488355328 < c * ie.bytes) := by
    have : ((c * ie.bytes : Nat) : Int) ≤ 70368744177664 := by rw [Int.natCast_mul]; exact h2
    omega
  have hcells : (Array.range c).map (fun j => ie.zeroV.cells[j % ie.zeroV.cells.size]!) = (valsOf [.ints k c (List.replicate c 0)]).toArray := by
    apply Array.ext'
    simp [Cel.vals, hzero]
    apply List.ext_getElem
    · simp
    · intro i h1 h2
      simp [Nat.mod_one]
  by_cases hn : c = 0
  · subst hn
    have hl : l = 0 := by omega
    subst hl
    have w0 : IntKind.i64.wrap 0 = 0 := by decide
    simp [Instr.makeSlice, hund, asInt, asIntOf, typeInfo, hx1, hx2, hx3, hsz, sizeOf, w0, newRow, askRoom, roomBytes, baseOf, Cel.vals, Blk.at_bare, newB]
    congr 2
    apply Array.ext' ; simp
  · simp [Instr.makeSlice, hund, asInt, asIntOf, typeInfo, hx1, hx2, hx3, hx4, hsz, sizeOf, zeroValue, wl, wc, n1, n2, n3, n4, n4', n5, hn, newRow, askRoom, roomBytes, baseOf, hcells, Blk.at_bare, newB]

end Ab
end Go
