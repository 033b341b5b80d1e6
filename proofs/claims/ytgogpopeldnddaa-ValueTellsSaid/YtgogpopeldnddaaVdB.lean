/- How an abstract state goes on standing for a frame and a world: a slot is put, a row is made, a row is written. -/
import Derived.Test.YtgogpopeldnddaaVdA
set_option linter.unusedVariables false
set_option linter.unusedSimpArgs false
namespace Go.Vd
open Go.RowKit

section
variable {w0 : World} {O : Nat → Prop} {L : Lent} {n : Nat} {μ : Mu} {st : St} {a : Act} {w : World}

theorem CellRel.rel {O : Nat → Prop} {R : Rows} {pr : Bool} {p : PV} {v : Value} (h : CellRel w O μ R pr p v) : Rel w O μ R p v := by
  unfold CellRel at h
  split at h
  · exact .base _ _ h
  · exact h

theorem CellRel.mono {w w' : World} {O O' : Nat → Prop} {μ μ' : Mu} {R R' : Rows} (f : Nat → Bool) (hw : ∀ b, b < w.heap.size → ¬ O b → w'.heap[b]? = w.heap[b]?)
    (hO : ∀ b, b < w.heap.size → O' b → O b)
    (he : ∀ t row, f t = true → R t = some row → μ' t = μ t ∧ ∃ row', R' t = some row' ∧ row'.sz = row.sz ∧ row.cs.length ≤ row'.cs.length)
    {pr : Bool} {p : PV} {v : Value} (h : CellRel w O μ R pr p v) (hf : pr = true ∨ p.tk f = true) : CellRel w' O' μ' R' pr p v := by
  unfold CellRel at *
  split
  · rename_i hp; rw [if_pos hp] at h; exact h.frame hw hO
  · rename_i hp; rw [if_neg hp] at h; exact h.mono f hw hO he (hf.resolve_left hp)

theorem PV.tk_of_tks {f : Nat → Bool} {x : PV} (h : x.tk f = true) : ∀ p ∈ x.cells, p.tk f = true := by
  cases x <;> intro p hp <;> simp only [PV.cells, List.mem_singleton] at hp
  case agg cs => exact PV.tks_mem (by simpa [PV.tk] using h) p hp
  all_goals (subst hp; exact h)

/-- All that a row's cells name. -/
def Row.tk (f : Nat → Bool) (row : Row) : Bool := row.pr || PV.tks f row.cs

theorem RowRel.mono {w w' : World} {O O' : Nat → Prop} {μ μ' : Mu} {R R' : Rows} (f : Nat → Bool) (hw : ∀ b, b < w.heap.size → ¬ O b → w'.heap[b]? = w.heap[b]?)
    (hO : ∀ b, b < w.heap.size → O' b → O b)
    (he : ∀ t row, f t = true → R t = some row → μ' t = μ t ∧ ∃ row', R' t = some row' ∧ row'.sz = row.sz ∧ row.cs.length ≤ row'.cs.length)
    {t t' : Nat} {row : Row} (h : RowRel w O μ R t row) (ht : μ' t' = μ t) (hb : ∀ l, μ t = some l → w'.heap[l.b]? = w.heap[l.b]?) (hf : row.tk f = true) : RowRel w' O' μ' R' t' row := by
  refine ⟨h.sz, h.el, fun hn => h.non (ht ▸ hn), fun l hl => ?_⟩
  rw [ht] at hl
  obtain ⟨arr, ety, fz, h1, h2, h3, h4, h5⟩ := h.lie l hl
  refine ⟨arr, ety, fz, (hb l hl).trans h1, h2, h3, h4, fun i x j p hi hj => ?_⟩
  obtain ⟨v, hv, hc⟩ := h5 i x j p hi hj
  refine ⟨v, hv, hc.mono f hw hO he ?_⟩
  unfold Row.tk at hf
  rw [Bool.or_eq_true] at hf
  exact hf.imp id fun hf => PV.tk_of_tks (PV.tks_mem hf x (List.mem_of_getElem? hi)) p (List.mem_of_getElem? hj)

theorem PV.tks_true : ∀ l : List PV, PV.tks (fun _ => true) l = true
  | [] => rfl
  | p :: r => by rw [PV.tks, PV.tk_true, PV.tks_true r]; rfl
theorem Row.tk_true (row : Row) : row.tk (fun _ => true) = true := by unfold Row.tk; rw [PV.tks_true]; simp

theorem StRel.block_lt (h : StRel w0 O L n μ st a w) {t : Nat} {row : Row} {l : Loc} (hr : st.r t = some row) (hl : μ t = some l) : l.b < w.heap.size := by
  obtain ⟨arr, ety, fz, h1, _⟩ := (h.row t row hr).lie l hl
  rcases Nat.lt_or_ge l.b w.heap.size with h' | h'
  · exact h'
  · rw [Array.getElem?_eq_none h'] at h1; cases h1

def St.put (st : St) (dst : Option Nat) (p : PV) : St :=
  match dst with
  | some d => ⟨upd st.s d (some p), st.r⟩
  | none => st

theorem St.put_r (st : St) (dst : Option Nat) (p : PV) : (st.put dst p).r = st.r := by cases dst <;> rfl

theorem StRel.put (h : StRel w0 O L n μ st a w) (dst : Option Nat) (hd : ∀ d, dst = some d → d < n) {p : PV} {v : Value} (hr : Rel w (Av O μ st.r) μ st.r p v) :
    StRel w0 O L n μ (st.put dst p) (a.put dst v) w := by
  cases dst with
  | none => exact h
  | some d =>
    have hdn := hd d rfl
    refine ⟨h.dfr, by simpa [Act.put] using h.size, h.fr, h.out, fun k q hk => ?_, h.row, h.inj, h.own, h.keep⟩
    by_cases hkd : k = d
    · subst hkd
      simp only [St.put, upd_same, Option.some.injEq] at hk
      subst hk
      refine ⟨v, ?_, hr⟩
      simp [Act.put, h.size, hdn]
    · simp only [St.put, upd_ne _ _ hkd] at hk
      obtain ⟨u, hu, hrel⟩ := h.slot k q hk
      refine ⟨u, ?_, hrel⟩
      simp only [Act.put]
      rw [Array.getElem?_setIfInBounds_ne (Ne.symm hkd)]
      exact hu

theorem StRel.drew (h : StRel w0 O L n μ st a w) : StRel w0 O L n μ st a w.drew := by
  refine ⟨h.dfr, h.size, h.fr.drew, h.out, fun k q hk => ?_, fun t row hr => ?_, h.inj, h.own, h.keep⟩
  · obtain ⟨u, hu, hrel⟩ := h.slot k q hk
    exact ⟨u, hu, hrel.mono (w := w) (w' := w.drew) (fun _ => true) (fun _ _ _ => rfl) (fun _ _ h => h) (fun t row _ hr => ⟨rfl, row, hr, rfl, Nat.le_refl _⟩) (PV.tk_true _)⟩
  · exact (h.row t row hr).mono (w := w) (w' := w.drew) (fun _ => true) (fun _ _ _ => rfl) (fun _ _ h => h) (fun t row _ hr => ⟨rfl, row, hr, rfl, Nat.le_refl _⟩) rfl (fun _ _ => rfl) (Row.tk_true _)

/-- Fewer slots, fewer rows: what is left names nothing that is gone. -/
theorem StRel.canon (h : StRel w0 O L n μ st a w) {st' : St} (hs : ∀ k p, st'.s k = some p → st.s k = some p ∧ p.tk (fun t => (st'.r t).isSome) = true)
    (hr : ∀ t row, st'.r t = some row → st.r t = some row ∧ row.tk (fun t => (st'.r t).isSome) = true) (hT : ∀ t, L.T t = true → (st'.r t).isSome = true) : StRel w0 O L n μ st' a w := by
  have hO : ∀ b, b < w.heap.size → Av O μ st'.r b → Av O μ st.r b := by
    rintro b _ (h1 | ⟨t, row, l, h1, h2, h3⟩)
    · exact .inl h1
    · exact .inr ⟨t, row, l, (hr t row h1).1, h2, h3⟩
  have he : ∀ t row, (st'.r t).isSome = true → st.r t = some row → μ t = μ t ∧ ∃ row', st'.r t = some row' ∧ row'.sz = row.sz ∧ row.cs.length ≤ row'.cs.length := by
    intro t row ht h1
    obtain ⟨row', h2⟩ := Option.isSome_iff_exists.1 ht
    have h3 := (hr t row' h2).1
    rw [h1] at h3
    cases h3
    exact ⟨rfl, row, h2, rfl, Nat.le_refl _⟩
  refine ⟨h.dfr, h.size, h.fr, h.out, fun k q hk => ?_, fun t row ht => ?_, fun t t' row row' l l' h1 h2 => h.inj t t' row row' l l' (hr _ _ h1).1 (hr _ _ h2).1,
    fun t row l h1 => h.own t row l (hr _ _ h1).1, fun t ht => ⟨(h.keep t ht).1, Option.isSome_iff_exists.1 (hT t ht)⟩⟩
  · obtain ⟨h1, h2⟩ := hs k q hk
    obtain ⟨u, hu, hrel⟩ := h.slot k q h1
    exact ⟨u, hu, hrel.mono _ (fun _ _ _ => rfl) hO he h2⟩
  · obtain ⟨h1, h2⟩ := hr t row ht
    exact (h.row t row h1).mono _ (fun _ _ _ => rfl) hO he rfl (fun _ _ => rfl) h2

theorem StRel.noT (h : StRel w0 O L n μ st a w) {t : Nat} (ht : st.r t = none) : L.T t = false := by
  cases hT : L.T t with
  | false => rfl
  | true => obtain ⟨_, row, hr⟩ := h.keep t hT; rw [ht] at hr; cases hr

theorem StRel.keep_new (h : StRel w0 O L n μ st a w) {t : Nat} (ht : st.r t = none) (l : Option Loc) (row : Row) : ∀ u, L.T u = true → upd μ t l u = L.μ u ∧ ∃ r, upd st.r t (some row) u = some r := by
  intro u hu
  obtain ⟨h1, r, h2⟩ := h.keep u hu
  have hne : u ≠ t := fun e => by rw [e, ht] at h2; cases h2
  exact ⟨(upd_ne _ _ hne).trans h1, r, (upd_ne _ _ hne).trans h2⟩

/-- A row is made: its block is new. -/
theorem StRel.alloc (h : StRel w0 O L n μ st a w) (t : Nat) (ht : st.r t = none) (row : Row) (arr : Array Value) (ety : TypeId) (fz : Nat × Nat) (hsz : 0 < row.sz)
    (hel : ∀ x ∈ row.cs, x.cells.length = row.sz ∧ ∀ p ∈ x.cells, p.one = true) (hlen : row.cs.length * row.sz ≤ arr.size) (hfz : ∀ j, j < arr.size → ¬ (fz.1 ≤ j ∧ j < fz.2))
    (hc : ∀ (i : Nat) (x : PV) (j : Nat) (p : PV), row.cs[i]? = some x → x.cells[j]? = some p → ∃ v, arr[i * row.sz + j]? = some v ∧ CellRel w (Av O μ st.r) μ st.r row.pr p v) :
    StRel w0 O L n (upd μ t (some ⟨w.heap.size, 0, arr.size⟩)) ⟨st.s, upd st.r t (some row)⟩ a (w.alloc (.cells arr ety fz)) := by
  have hw : ∀ b, b < w.heap.size → ¬ Av O μ st.r b → (w.alloc (.cells arr ety fz)).heap[b]? = w.heap[b]? := fun b hb _ => Below.heap_alloc _ _ _ hb
  have hO : ∀ b, b < w.heap.size → Av O (upd μ t (some ⟨w.heap.size, 0, arr.size⟩)) (upd st.r t (some row)) b → Av O μ st.r b := by
    rintro b hb (h1 | ⟨u, r, l, h1, h2, h3⟩)
    · exact .inl h1
    · by_cases hu : u = t
      · subst hu
        rw [upd_same] at h2
        cases h2
        simp at h3
        omega
      · rw [upd_ne _ _ hu] at h1 h2
        exact .inr ⟨u, r, l, h1, h2, h3⟩
  have he : ∀ u r, true = true → st.r u = some r → upd μ t (some ⟨w.heap.size, 0, arr.size⟩) u = μ u ∧ ∃ row', upd st.r t (some row) u = some row' ∧ row'.sz = r.sz ∧ r.cs.length ≤ row'.cs.length := by
    intro u r _ hu
    have hne : u ≠ t := fun e => by rw [e, ht] at hu; cases hu
    exact ⟨upd_ne _ _ hne, r, by rw [upd_ne _ _ hne]; exact hu, rfl, Nat.le_refl _⟩
  have hsize : (w.alloc (.cells arr ety fz)).heap.size = w.heap.size + 1 := World.size_alloc _ _
  refine ⟨h.dfr, h.size, h.fr.trans (L' := fun _ => False) ⟨rfl, rfl, rfl, by omega, fun b hb _ => Below.heap_alloc _ _ _ hb⟩ (fun _ _ h => h.elim), h.out, fun k q hk => ?_, fun u r hu => ?_, ?_, ?_, fun u hu => h.keep_new ht _ _ u hu⟩
  · obtain ⟨v, hv, hrel⟩ := h.slot k q hk
    exact ⟨v, hv, hrel.mono (fun _ => true) hw hO he (PV.tk_true _)⟩
  · by_cases hut : u = t
    · subst hut
      simp only [upd_same, Option.some.injEq] at hu
      subst hu
      refine ⟨hsz, hel, (fun hn => by rw [upd_same] at hn; cases hn), fun l hl => ?_⟩
      rw [upd_same] at hl
      cases hl
      refine ⟨arr, ety, fz, (by show (w.heap.push _)[w.heap.size]? = _; simp), by simp, hlen, fun j _ hj => hfz j (by simpa using hj), fun i x j p hi hj => ?_⟩
      obtain ⟨v, hv, hcr⟩ := hc i x j p hi hj
      exact ⟨v, by simpa using hv, hcr.mono (fun _ => true) hw hO he (.inr (PV.tk_true _))⟩
    · simp only [upd_ne _ _ hut] at hu
      exact (h.row u r hu).mono (fun _ => true) hw hO he (upd_ne _ _ hut) (fun l hl => Below.heap_alloc _ _ _ (h.block_lt hu hl)) (Row.tk_true _)
  · intro u u' r r' l l' h1 h2 h3 h4 h5
    by_cases hu : u = t
    · by_cases hu' : u' = t
      · rw [hu, hu']
      · subst hu
        simp only [upd_ne _ _ hu'] at h2 h4
        rw [upd_same] at h3
        cases h3
        have := h.block_lt h2 h4
        simp at h5
        omega
    · simp only [upd_ne _ _ hu] at h1 h3
      by_cases hu' : u' = t
      · subst hu'
        rw [upd_same] at h4
        cases h4
        have := h.block_lt h1 h3
        simp at h5
        omega
      · simp only [upd_ne _ _ hu'] at h2 h4
        exact h.inj u u' r r' l l' h1 h2 h3 h4 h5
  · intro u r l h1 h2
    by_cases hu : u = t
    · subst hu
      rw [upd_same] at h2
      cases h2
      exact ⟨fun hO' => by have := h.out _ hO'; have := h.fr.size; simp at *; omega, .inl h.fr.size⟩
    · simp only [upd_ne _ _ hu] at h1 h2
      exact h.own u r l h1 h2

/-- A row that lies nowhere yet: an empty one. -/
theorem StRel.empty (h : StRel w0 O L n μ st a w) (t : Nat) (ht : st.r t = none) (sz : Nat) (hsz : 0 < sz) (pr : Bool) :
    StRel w0 O L n (upd μ t none) ⟨st.s, upd st.r t (some ⟨sz, pr, []⟩)⟩ a w := by
  have hO : ∀ b, b < w.heap.size → Av O (upd μ t none) (upd st.r t (some ⟨sz, pr, []⟩)) b → Av O μ st.r b := by
    rintro b hb (h1 | ⟨u, r, l, h1, h2, h3⟩)
    · exact .inl h1
    · by_cases hu : u = t
      · subst hu; rw [upd_same] at h2; cases h2
      · rw [upd_ne _ _ hu] at h1 h2
        exact .inr ⟨u, r, l, h1, h2, h3⟩
  have he : ∀ u r, true = true → st.r u = some r → upd μ t none u = μ u ∧ ∃ row', upd st.r t (some ⟨sz, pr, []⟩) u = some row' ∧ row'.sz = r.sz ∧ r.cs.length ≤ row'.cs.length := by
    intro u r _ hu
    have hne : u ≠ t := fun e => by rw [e, ht] at hu; cases hu
    exact ⟨upd_ne _ _ hne, r, by rw [upd_ne _ _ hne]; exact hu, rfl, Nat.le_refl _⟩
  refine ⟨h.dfr, h.size, h.fr, h.out, fun k q hk => ?_, fun u r hu => ?_, ?_, ?_, fun u hu => h.keep_new ht _ _ u hu⟩
  · obtain ⟨v, hv, hrel⟩ := h.slot k q hk
    exact ⟨v, hv, hrel.mono (fun _ => true) (fun _ _ _ => rfl) hO he (PV.tk_true _)⟩
  · by_cases hut : u = t
    · subst hut
      simp only [upd_same, Option.some.injEq] at hu
      subst hu
      exact ⟨hsz, (fun x hx => by cases hx), (fun _ => rfl), (fun l hl => by rw [upd_same] at hl; cases hl)⟩
    · simp only [upd_ne _ _ hut] at hu
      exact (h.row u r hu).mono (fun _ => true) (fun _ _ _ => rfl) hO he (upd_ne _ _ hut) (fun l hl => rfl) (Row.tk_true _)
  · intro u u' r r' l l' h1 h2 h3 h4 h5
    have hu : u ≠ t := fun e => by rw [e, upd_same] at h3; cases h3
    have hu' : u' ≠ t := fun e => by rw [e, upd_same] at h4; cases h4
    simp only [upd_ne _ _ hu] at h1 h3
    simp only [upd_ne _ _ hu'] at h2 h4
    exact h.inj u u' r r' l l' h1 h2 h3 h4 h5
  · intro u r l h1 h2
    have hu : u ≠ t := fun e => by rw [e, upd_same] at h2; cases h2
    simp only [upd_ne _ _ hu] at h1 h2
    exact h.own u r l h1 h2

/-- A row that is owned is written: its block alone has turned. -/
theorem StRel.write (h : StRel w0 O L n μ st a w) {t : Nat} {row : Row} {l : Loc} (ht : st.r t = some row) (hl : μ t = some l) {w' : World} (hfr : Fr (fun b => b = l.b) w w')
    (row' : Row) (hsz : row'.sz = row.sz) (hlen : row'.cs.length = row.cs.length)
    (hel : ∀ x ∈ row'.cs, x.cells.length = row.sz ∧ ∀ p ∈ x.cells, p.one = true)
    (hlie : ∃ arr ety fz, w'.heap[l.b]? = some (.cells arr ety fz) ∧ l.base + l.room ≤ arr.size ∧ (∀ j, l.base ≤ j → j < l.base + l.room → ¬ (fz.1 ≤ j ∧ j < fz.2)) ∧
      (∀ (i : Nat) (x : PV) (j : Nat) (p : PV), row'.cs[i]? = some x → x.cells[j]? = some p → ∃ v, arr[l.base + (i * row.sz + j)]? = some v ∧ CellRel w (Av O μ st.r) μ st.r row'.pr p v)) :
    StRel w0 O L n μ ⟨st.s, upd st.r t (some row')⟩ a w' := by
  have hOw : Owned μ st.r l.b := ⟨t, row, l, ht, hl, rfl⟩
  have hw : ∀ b, b < w.heap.size → ¬ Av O μ st.r b → w'.heap[b]? = w.heap[b]? := fun b hb hn => hfr.block b hb fun e => hn (.inr (e ▸ hOw))
  have hO : ∀ b, b < w.heap.size → Av O μ (upd st.r t (some row')) b → Av O μ st.r b := by
    rintro b hb (h1 | ⟨u, r, l', h1, h2, h3⟩)
    · exact .inl h1
    · by_cases hu : u = t
      · subst hu; exact .inr ⟨u, row, l', ht, h2, h3⟩
      · rw [upd_ne _ _ hu] at h1
        exact .inr ⟨u, r, l', h1, h2, h3⟩
  have he : ∀ u r, true = true → st.r u = some r → μ u = μ u ∧ ∃ row'', upd st.r t (some row') u = some row'' ∧ row''.sz = r.sz ∧ r.cs.length ≤ row''.cs.length := by
    intro u r _ hu
    by_cases hut : u = t
    · subst hut
      rw [ht] at hu
      cases hu
      exact ⟨rfl, row', upd_same _ _ _, hsz, by omega⟩
    · exact ⟨rfl, r, by rw [upd_ne _ _ hut]; exact hu, rfl, Nat.le_refl _⟩
  refine ⟨h.dfr, h.size, h.fr.trans hfr (fun x hx e => ?_), h.out, fun k q hk => ?_, fun u r hu => ?_, ?_, ?_, fun u hu => ⟨(h.keep u hu).1, ?_⟩⟩
  · subst e
    rcases (h.own t row l ht hl).2 with h1 | h1
    · omega
    · exact h1
  · obtain ⟨v, hv, hrel⟩ := h.slot k q hk
    exact ⟨v, hv, hrel.mono (fun _ => true) hw hO he (PV.tk_true _)⟩
  · by_cases hut : u = t
    · subst hut
      simp only [upd_same, Option.some.injEq] at hu
      subst hu
      obtain ⟨arr, ety, fz, h1, h2, h3, h4⟩ := hlie
      refine ⟨by rw [hsz]; exact (h.row u row ht).sz, by rw [hsz]; exact hel, (fun hn => by rw [hl] at hn; cases hn), fun l' hl' => ?_⟩
      rw [hl] at hl'
      cases hl'
      obtain ⟨arr0, ety0, fz0, g1, g2, g3, g4, g5⟩ := (h.row u row ht).lie l hl
      refine ⟨arr, ety, fz, h1, h2, by rw [hlen, hsz]; exact g3, h3, fun i x j p hi hj => ?_⟩
      obtain ⟨v, hv, hcr⟩ := h4 i x j p hi hj
      exact ⟨v, by rw [hsz]; exact hv, hcr.mono (fun _ => true) hw hO he (.inr (PV.tk_true _))⟩
    · simp only [upd_ne _ _ hut] at hu
      refine (h.row u r hu).mono (fun _ => true) hw hO he rfl (fun l' hl' => hfr.block _ (h.block_lt hu hl') fun e => hut ?_) (Row.tk_true _)
      exact h.inj u t r row l' l hu ht hl' hl e
  · intro u u' r r' l1 l2 h1 h2 h3 h4 h5
    have g : ∀ v s, upd st.r t (some row') v = some s → ∃ s', st.r v = some s' := by
      intro v s hv
      by_cases hvt : v = t
      · subst hvt; exact ⟨row, ht⟩
      · rw [upd_ne _ _ hvt] at hv; exact ⟨s, hv⟩
    obtain ⟨s, hs⟩ := g u r h1
    obtain ⟨s', hs'⟩ := g u' r' h2
    exact h.inj u u' s s' l1 l2 hs hs' h3 h4 h5
  · intro u r l' h1 h2
    by_cases hut : u = t
    · subst hut; exact h.own u row l' ht h2
    · simp only [upd_ne _ _ hut] at h1
      exact h.own u r l' h1 h2
  · obtain ⟨_, r, hr⟩ := h.keep u hu
    by_cases hut : u = t
    · subst hut; exact ⟨row', upd_same _ _ _⟩
    · exact ⟨r, (upd_ne _ _ hut).trans hr⟩
end
end Go.Vd
