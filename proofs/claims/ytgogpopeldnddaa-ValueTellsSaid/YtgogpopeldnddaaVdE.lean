/- Each operation that writes nothing: the machine's run of it stands for what 'pop' says. -/
import Derived.Test.YtgogpopeldnddaaVdD
set_option linter.unusedVariables false
set_option linter.unusedSimpArgs false
namespace Go.Vd
open Go.RowKit

section
variable {w : World} {O : Nat → Prop} {μ : Mu} {R : Rows} {P : Program}

/-- The rows that R names lie in the world. -/
abbrev RowsLie (w : World) (O : Nat → Prop) (μ : Mu) (R : Rows) : Prop := ∀ t row, R t = some row → RowRel w O μ R t row

theorem cell_of_lies {l : Loc} {row : Row} {arr : Array Value} {ety : TypeId} {fz : Nat × Nat} (h : w.heap[l.b]? = some (.cells arr ety fz)) {k : Nat} {v : Value} (hv : arr[k]? = some v) :
    w.cell? ⟨l.b, k, none⟩ = some v := by
  simp [World.cell?, h, hv]

theorem Lies.cell {row : Row} {l : Loc} (h : Lies w O μ R row l) {i : Nat} {x : PV} {j : Nat} {p : PV} (hi : row.cs[i]? = some x) (hj : x.cells[j]? = some p) :
    ∃ v, w.cell? ⟨l.b, l.base + (i * row.sz + j), none⟩ = some v ∧ CellRel w O μ R row.pr p v := by
  obtain ⟨arr, ety, fz, h1, _, _, _, h5⟩ := h
  obtain ⟨v, hv, hc⟩ := h5 i x j p hi hj
  exact ⟨v, by simp [World.cell?, h1, hv], hc⟩

theorem beq_run (ne : Bool) (t : TypeId) (ht : P.underlying t = some .bool) {p q r : PV} (h : beqv ne p q = some r) {u v : Value} (hu : Rel w O μ R p u) (hv : Rel w O μ R q v) :
    ∃ x, (binOp (bif ne then .neq else .eql) t u v).run P w = .ok x w ∧ Rel0 w O r x := by
  cases p <;> cases q <;> simp only [beqv] at h <;> try cases h
  case bool.bool a b =>
    cases hu.bool_inv
    cases hv.bool_inv
    have he : ∀ d, (Op.equalIn (d + 1) t (.bool a) (.bool b)).run P w = .ok (a == b) w := fun d => run_equalIn_bool w d t a b ht
    cases ne
    · refine ⟨.bool (a == b), ?_, .bool _⟩
      simp [binOp, Op.equal, Op.maxDepth, he 9999]
    · refine ⟨.bool (!(a == b)), ?_, .bool _⟩
      simp [binOp, Op.equal, Op.maxDepth, he 9999]

theorem eqn_run (ne : Bool) (t e : TypeId) (i : TypeInfo) (ht : P.underlying t = some (.pointer e)) {p q r : PV} (h : eqnv ne p q = some r) {u v : Value} (hu : Rel w O μ R p u) (hv : Rel w O μ R q v) :
    ∃ x, (binOp (bif ne then .neq else .eql) t u v).run P w = .ok x w ∧ Rel0 w O r x := by
  have hnil : ∀ {q : PV} {v : Value}, q = .nilp → Rel w O μ R q v → v = .pointer none := by
    intro q v hq hv
    subst hq
    cases hv with | base _ _ h => cases h; rfl
  have key : ∀ (b : Bool) (A : Option Addr), (A.isNone = b) → ∃ x, (binOp (bif ne then .neq else .eql) t (.pointer A) (.pointer none)).run P w = .ok x w ∧ Rel0 w O (.bool (xneg ne b)) x := by
    intro b A hA
    have he : ∀ d, (Op.equalIn (d + 1) t (.pointer A) (.pointer none)).run P w = .ok b w := by
      intro d
      cases A with
      | none => simp at hA; subst hA; simp [Op.equalIn, run_underlying ht]
      | some a => simp at hA; subst hA; simp [Op.equalIn, run_underlying ht]
    cases ne
    · refine ⟨.bool b, ?_, .bool _⟩
      simp [binOp, Op.equal, Op.maxDepth, he 9999]
    · refine ⟨.bool (!b), ?_, .bool _⟩
      simp [binOp, Op.equal, Op.maxDepth, he 9999]
  cases p <;> cases q <;> simp only [eqnv] at h <;> try cases h
  case ptr.nilp t i o =>
    cases hnil rfl hv
    cases hu with
    | base _ _ h => cases h
    | ptr _ _ _ row l hr hm hi ho => exact key false _ rfl
  case ep.nilp cs =>
    cases hnil rfl hv
    cases hu with
    | base _ _ h => cases h; exact key false _ rfl
  case nilp.nilp =>
    cases hnil rfl hv
    cases hnil rfl hu
    exact key true _ rfl

theorem loadCells_part {a : Addr} {cs : List PV} {n : Nat} (hn : n ≤ cs.length) (h : ∀ (j : Nat) (p : PV), cs[j]? = some p → ∃ v, w.cell? (a.add j) = some v ∧ Rel w O μ R p v) :
    ∃ vs : List Value, (loadCells a n).run P w = .ok vs.toArray w ∧ vs.length = n ∧ ∀ (j : Nat) (p : PV) (u : Value), j < n → cs[j]? = some p → vs[j]? = some u → Rel w O μ R p u := by
  have hex : ∃ f : Nat → Value, ∀ j, j < n → w.cell? (a.add j) = some (f j) ∧ ∀ p, cs[j]? = some p → Rel w O μ R p (f j) := by
    refine ⟨fun j => ((w.cell? (a.add j)).getD undef), fun j hj => ?_⟩
    have hc : cs[j]? = some (cs[j]'(by omega)) := List.getElem?_eq_getElem (by omega)
    obtain ⟨v, hv, hr⟩ := h j _ hc
    refine ⟨by simp [hv], fun p hp => ?_⟩
    rw [hc] at hp
    cases hp
    simpa [hv] using hr
  obtain ⟨f, hf⟩ := hex
  refine ⟨(List.range n).map f, run_loadCells w a n f (fun j hj => (hf j hj).1), by simp, fun j p u hj hp hu => ?_⟩
  simp [List.getElem?_map, List.getElem?_range, hj] at hu
  subst hu
  exact (hf j hj).2 p hp

theorem load_run {t : TypeId} {sz : Nat} {ag : Bool} (ha : isAggT P t = some ag) (hz : szT P t = some sz) (hR : RowsLie w O μ R) {x p : PV} {u : Value} (hx : Rel w O μ R x u) (h : loadv R sz ag x = some p) :
    ∃ v, (Instr.loadAt t u).run P w = .ok v w ∧ Rel w O μ R p v := by
  -- the cells from an address on
  have key : ∀ (b o : Nat) (cs : List PV) (off : Nat), (∀ p ∈ cs, p.one = true) → (∀ (j : Nat) (p : PV), cs[j]? = some p → ∃ v, w.cell? ⟨b, o + j, none⟩ = some v ∧ Rel w O μ R p v) →
      (ag = true → off + sz ≤ cs.length) → partv off sz ag cs = some p → ∃ v, (Instr.loadAt t (.pointer (some ⟨b, o + off, none⟩))).run P w = .ok v w ∧ Rel w O μ R p v := by
    intro b o cs off hs hc hn hp
    unfold Instr.loadAt Instr.sureAddr loadVar
    simp only [Sem.run_bind, Sem.run_pure, Result.andThen_ok, run_isAggT ha]
    cases ag with
    | false =>
      simp only [partv, cond_false] at hp
      obtain ⟨v, hv, hr⟩ := hc off p hp
      exact ⟨v, by simp [hv], hr⟩
    | true =>
      simp only [partv, cond_true, Option.some.injEq] at hp
      subst hp
      have hle := hn rfl
      obtain ⟨vs, hrun, hlen, hrel⟩ := loadCells_part (P := P) (a := ⟨b, o + off, none⟩) (cs := (cs.drop off).take sz) (n := sz) (by simp; omega) (fun j p hj => by
        rw [List.getElem?_take] at hj
        split at hj
        · rw [List.getElem?_drop] at hj
          obtain ⟨v, hv, hr⟩ := hc (off + j) p hj
          exact ⟨v, by rw [Addr.add_lit, Nat.add_assoc]; exact hv, hr⟩
        · cases hj)
      refine ⟨.agg vs.toArray, by simp [run_szT hz, hrun], .agg _ _ (by simp; omega) (fun p hp => hs p (List.mem_of_mem_drop (List.mem_of_mem_take hp))) fun j p u hj hu => ?_⟩
      have hjl : j < sz := by
        obtain ⟨hlt, _⟩ := List.getElem?_eq_some_iff.1 hu
        omega
      exact hrel j p u hjl hj hu
  cases x <;> simp only [loadv] at h <;> try cases h
  case ptr t' i o =>
    cases hr : R t' with
    | none => simp [hr] at h
    | some row =>
      cases hi : row.cs[i]? with
      | none => simp [hr, hi] at h
      | some y =>
        simp only [hr, hi] at h
        split at h
        · cases h
        · rename_i hn
          cases hx with
          | base _ _ h' => cases h'
          | ptr _ _ _ row' l hr' hm hil ho =>
            rw [hr] at hr'
            cases hr'
            have hrr := hR t' row hr
            have hlie := hrr.lie l hm
            rw [← Nat.add_assoc]
            refine key l.b (l.base + i * row.sz) y.cells o ((hrr.el y (List.mem_of_getElem? hi)).2) (fun j p hj => ?_) (fun hag => ?_) h
            · obtain ⟨v, hv, hc⟩ := hlie.cell hi hj
              exact ⟨v, by rw [Nat.add_assoc]; exact hv, hc.rel⟩
            · rcases Nat.lt_or_ge y.cells.length (o + sz) with h1 | h1
              · exact absurd ⟨hag, h1⟩ hn
              · exact h1
  case ep cs =>
    split at h
    · cases h
    · rename_i hn
      cases hx with
      | base _ _ h' =>
        cases h' with
        | ep _ b o V ho hx hs h1 h2 =>
          refine key b o cs 0 hs (fun j p hj => ⟨V j, h1 j p hj, .base _ _ (h2 j p hj)⟩) (fun hag => ?_) h
          rcases Nat.lt_or_ge cs.length sz with h1 | h1
          · exact absurd ⟨hag, h1⟩ hn
          · omega

theorem ep_of_sl {sz : Nat} {xs : List PV} {b o c : Nat} {V : Nat → Nat → Value} (ho : ¬ O b) (hz : 0 < sz)
    (hs : ∀ x ∈ xs, x.cells.length = sz ∧ ∀ p ∈ x.cells, p.one = true)
    (h1 : ∀ (i : Nat) (x : PV) (j : Nat) (p : PV), xs[i]? = some x → x.cells[j]? = some p → w.cell? ⟨b, o + (i * sz + j), none⟩ = some (V i j))
    (h2 : ∀ (i : Nat) (x : PV) (j : Nat) (p : PV), xs[i]? = some x → x.cells[j]? = some p → Rel0 w O p (V i j)) {i : Nat} {x : PV} (hi : xs[i]? = some x) :
    Rel0 w O (.ep x.cells) (.pointer (some ⟨b, o + i * sz, none⟩)) := by
  have hx := hs x (List.mem_of_getElem? hi)
  refine .ep x.cells b (o + i * sz) (V i) ho (fun e => by rw [e] at hx; simp at hx; omega) hx.2 (fun j p hj => ?_) (fun j p hj => h2 i x j p hi hj)
  rw [Nat.add_assoc]
  exact h1 i x j p hi hj

theorem ixp_run {t e : TypeId} {sz : Nat} (ht : P.underlying t = some (.slice e)) (hz : szT P e = some sz) {x y p : PV} {u v : Value} (hx : Rel w O μ R x u) (hy : Rel w O μ R y v) (hR : RowsLie w O μ R) (h : ixpv R sz x y = some p) :
    ∃ q, (Instr.indexAt t u v).run P w = .ok q w ∧ Rel w O μ R p q := by
  cases x <;> cases y <;> simp only [ixpv] at h <;> try cases h
  case sl.int sz' xs k i =>
    cases hy.int_inv
    split at h
    · rename_i hc
      obtain ⟨rfl, h0⟩ := hc
      obtain ⟨x, hi, rfl⟩ := Option.map_eq_some_iff.1 h
      obtain ⟨hlt, _⟩ := List.getElem?_eq_some_iff.1 hi
      cases hx with
      | base _ _ hx =>
        cases hx with
        | sl0 => simp at hi
        | sl _ _ b o c V ho hx hc' hz' hs h1 h2 =>
          refine ⟨_, ?_, .base _ _ (ep_of_sl (c := c) ho hz' hs h1 h2 hi)⟩
          have hlt' : i < (xs.length : Int) := by omega
          simp [Instr.indexAt, asIntOf, run_underlying ht, h0, hlt', run_szT hz, Addr.add_lit]
    · cases h
  case slr.int t' lo n k i =>
    cases hy.int_inv
    cases hr : R t' with
    | none => simp [hr] at h
    | some row =>
      simp only [hr] at h
      split at h
      · rename_i hc
        obtain ⟨hsz, h0, h1⟩ := hc
        cases h
        cases hx with
        | base _ _ h' => cases h'
        | slr _ _ _ c row' l hr' hm hn hc' hroom =>
          rw [hr] at hr'
          cases hr'
          refine ⟨_, ?_, .ptr t' (lo + i.toNat) 0 row l hr hm (by omega) (hR t' row hr).sz⟩
          simp [Instr.indexAt, asIntOf, run_underlying ht, h0, h1, run_szT hz, Addr.add_lit]
          rw [hsz, Nat.add_mul, Nat.add_assoc]
        | slr0 => omega
      · cases h

theorem ixq_run {t e : TypeId} {n sz : Nat} (ht : P.underlying t = some (.array n e)) (hz : szT P e = some sz) {x y p : PV} {u v : Value} (hx : Rel w O μ R x u) (hy : Rel w O μ R y v) (h : ixqv R n sz x y = some p) :
    ∃ q, (Instr.indexAt t u v).run P w = .ok q w ∧ Rel w O μ R p q := by
  cases x <;> cases y <;> simp only [ixqv] at h <;> try cases h
  case ptr.int t' i o k j =>
    cases hy.int_inv
    cases hr : R t' with
    | none => simp [hr] at h
    | some row =>
      simp only [hr] at h
      split at h
      · rename_i hc
        obtain ⟨h0, h1, h2⟩ := hc
        cases h
        cases hx with
        | base _ _ h' => cases h'
        | ptr _ _ _ row' l hr' hm hi ho =>
          rw [hr] at hr'
          cases hr'
          refine ⟨_, ?_, .ptr t' i (o + j.toNat * sz) row l hr hm hi h2⟩
          simp [Instr.indexAt, Instr.sureAddr, asIntOf, run_underlying ht, h0, h1, run_szT hz, Addr.add_lit]
          omega
      · cases h
  case ep.int cs k j =>
    cases hy.int_inv
    split at h
    · rename_i hc
      obtain ⟨h0, h1, h2⟩ := hc
      cases h
      cases hx with
      | base _ _ h' =>
        cases h' with
        | ep _ b o V ho hx hs g1 g2 =>
          refine ⟨_, ?_, .base _ _ (.ep _ b (o + j.toNat * sz) (fun m => V (j.toNat * sz + m)) ho (fun e => ?_) (fun p hp => hs p (List.mem_of_mem_drop hp)) (fun m p hm => ?_) (fun m p hm => ?_))⟩
          · simp [Instr.indexAt, Instr.sureAddr, asIntOf, run_underlying ht, h0, h1, run_szT hz, Addr.add_lit]
          · have := congrArg List.length e
            simp at this
            omega
          · rw [List.getElem?_drop] at hm
            rw [Nat.add_assoc]
            exact g1 _ p hm
          · rw [List.getElem?_drop] at hm
            exact g2 _ p hm
    · cases h

theorem fda_run {t : TypeId} {fs : Array Field} {f : Field} {k off sz : Nat} (ht : P.underlying t = some (.struct fs)) (hf : fs[k]? = some f) (hz : szT P f.type = some sz) (hsz : sz ≠ 0) (ho : f.offset = off)
    {x p : PV} {u : Value} (hx : Rel w O μ R x u) (h : fdav R off x = some p) : ∃ q, (Instr.fieldAt t u k).run P w = .ok q w ∧ Rel w O μ R p q := by
  subst ho
  cases x <;> simp only [fdav] at h <;> try cases h
  case ptr t' i o =>
    cases hr : R t' with
    | none => simp [hr] at h
    | some row =>
      simp only [hr] at h
      split at h
      · rename_i hc
        cases h
        cases hx with
        | base _ _ h' => cases h'
        | ptr _ _ _ row' l hr' hm hi ho =>
          rw [hr] at hr'
          cases hr'
          refine ⟨_, ?_, .ptr t' i (o + f.offset) row l hr hm hi hc⟩
          simp [Instr.fieldAt, Instr.sureAddr, run_underlying ht, hf, fieldPlace, run_szT hz, hsz, Addr.add_lit]
          omega
      · cases h
  case ep cs =>
    split at h
    · rename_i hc
      cases h
      cases hx with
      | base _ _ h' =>
        cases h' with
        | ep _ b o V ho hx hs g1 g2 =>
          refine ⟨_, ?_, .base _ _ (.ep _ b (o + f.offset) (fun m => V (f.offset + m)) ho (fun e => ?_) (fun p hp => hs p (List.mem_of_mem_drop hp)) (fun m p hm => ?_) (fun m p hm => ?_))⟩
          · simp [Instr.fieldAt, Instr.sureAddr, run_underlying ht, hf, fieldPlace, run_szT hz, hsz, Addr.add_lit]
          · have := congrArg List.length e
            simp at this
            omega
          · rw [List.getElem?_drop] at hm
            rw [Nat.add_assoc]
            exact g1 _ p hm
          · rw [List.getElem?_drop] at hm
            exact g2 _ p hm
    · cases h

end
end Go.Vd
