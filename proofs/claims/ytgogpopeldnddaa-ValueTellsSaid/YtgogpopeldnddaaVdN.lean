/- A row that is gone: what named it names nothing any more. A row that goes on under another name. -/
import Derived.Test.YtgogpopeldnddaaVdM
set_option linter.unusedVariables false
set_option linter.unusedSimpArgs false
namespace Go.Vd
open Go.RowKit

def kfs (t : Nat) : Nat → Nat → Nat → PV := fun u lo n => bif Nat.beq u t then .any else .slr u lo n
def kfp (t : Nat) : Nat → Nat → Nat → PV := fun u i o => bif Nat.beq u t then .any else .ptr u i o
def PV.kill (t : Nat) (p : PV) : PV := p.map (kfs t) (kfp t)
def Row.kill (t : Nat) (r : Row) : Row := bif r.pr then r else ⟨r.sz, r.pr, r.cs.map (PV.kill t)⟩
def killS (t : Nat) (s : Slots) : Slots := fun k => (s k).map (PV.kill t)
def killR (t : Nat) (r : Rows) : Rows := fun u => bif Nat.beq u t then none else (r u).map (Row.kill t)

theorem kfs_one (t u lo n : Nat) : (kfs t u lo n).one = true := by unfold kfs; cases Nat.beq u t <;> rfl
theorem kfp_one (t u lo n : Nat) : (kfp t u lo n).one = true := by unfold kfp; cases Nat.beq u t <;> rfl
theorem PV.kill_one {t : Nat} {p : PV} (h : p.one = true) : (p.kill t).one = true := PV.map_one (kfs_one t) (kfp_one t) p h
theorem beq_false {u t : Nat} (h : u ≠ t) : Nat.beq u t = false := by rw [← Bool.not_eq_true, Nat.beq_eq]; exact h
theorem beq_true (t : Nat) : Nat.beq t t = true := Nat.beq_refl t

theorem PV.map_cells {fs fp : Nat → Nat → Nat → PV} (hs : ∀ t lo n, (fs t lo n).one = true) (hp : ∀ t i o, (fp t i o).one = true) (p : PV) : (p.map fs fp).cells = p.cells.map (PV.map fs fp) := by
  have one : ∀ q : PV, q.one = true → q.cells = [q] := by intro q h; cases q <;> first | rfl | simp [PV.one] at h
  cases p with
  | agg cs => simp only [PV.map, PV.cells, PV.maps_eq]
  | tup cs => simp [PV.map, PV.cells]
  | slr t lo n => simp only [PV.map, PV.cells, List.map_cons, List.map_nil]; exact one _ (hs t lo n)
  | ptr t i o => simp only [PV.map, PV.cells, List.map_cons, List.map_nil]; exact one _ (hp t i o)
  | _ => rfl
theorem PV.kill_cells (t : Nat) (p : PV) : (p.kill t).cells = p.cells.map (PV.kill t) := PV.map_cells (kfs_one t) (kfp_one t) p

theorem Row.kill_sz (t : Nat) (r : Row) : (r.kill t).sz = r.sz := by unfold Row.kill; cases r.pr <;> rfl
theorem Row.kill_pr (t : Nat) (r : Row) : (r.kill t).pr = r.pr := by unfold Row.kill; cases h : r.pr <;> simp [h]
theorem Row.kill_len (t : Nat) (r : Row) : (r.kill t).cs.length = r.cs.length := by unfold Row.kill; cases r.pr <;> simp

section
variable {w w' : World} {O O' : Nat → Prop} {μ μ' : Mu} {R R' : Rows}

theorem Rel.killed (t : Nat) (hw : ∀ b, b < w.heap.size → ¬ O b → w'.heap[b]? = w.heap[b]?) (hO : ∀ b, b < w.heap.size → O' b → O b)
    (hR : ∀ u row, u ≠ t → R u = some row → μ' u = μ u ∧ ∃ row', R' u = some row' ∧ row'.sz = row.sz ∧ row'.cs.length = row.cs.length) {p : PV} {v : Value} (h : Rel w O μ R p v) : Rel w' O' μ' R' (p.kill t) v := by
  refine Rel.map (fs := kfs t) (fp := kfp t) hw hO (kfs_one t) (kfp_one t) (fun u lo n v h => ?_) (fun u i o v h => ?_) h
  · unfold kfs
    by_cases hu : u = t
    · rw [hu, beq_true]
      refine .base _ _ (.any v ?_)
      cases h with
      | base _ _ h => cases h
      | slr => rfl
      | slr0 => rfl
    · rw [beq_false hu]
      cases h with
      | base _ _ h => cases h
      | slr _ _ _ c row l hr hm hn hc hroom =>
        obtain ⟨h1, row', h2, h3, h4⟩ := hR u row hu hr
        rw [← h3]
        exact .slr u lo n c row' l h2 (h1.trans hm) (by omega) hc (by rw [h3]; exact hroom)
      | slr0 _ _ row A hr hn =>
        obtain ⟨h1, row', h2, h3, h4⟩ := hR u row hu hr
        exact .slr0 u lo row' A h2 (by omega)
  · unfold kfp
    by_cases hu : u = t
    · rw [hu, beq_true]
      refine .base _ _ (.any v ?_)
      cases h with
      | base _ _ h => cases h
      | ptr => rfl
    · rw [beq_false hu]
      cases h with
      | base _ _ h => cases h
      | ptr _ _ _ row l hr hm hi ho =>
        obtain ⟨h1, row', h2, h3, h4⟩ := hR u row hu hr
        rw [← h3]
        exact .ptr u i o row' l h2 (h1.trans hm) (by omega) (by omega)

theorem RowRel.killed (t : Nat) (hw : ∀ b, b < w.heap.size → ¬ O b → w'.heap[b]? = w.heap[b]?) (hO : ∀ b, b < w.heap.size → O' b → O b)
    (hR : ∀ u row, u ≠ t → R u = some row → μ' u = μ u ∧ ∃ row', R' u = some row' ∧ row'.sz = row.sz ∧ row'.cs.length = row.cs.length) {u : Nat} {row : Row} (h : RowRel w O μ R u row)
    (hu : μ' u = μ u) (hb : ∀ l, μ u = some l → w'.heap[l.b]? = w.heap[l.b]?) : RowRel w' O' μ' R' u (row.kill t) := by
  refine ⟨by rw [Row.kill_sz]; exact h.sz, fun x hx => ?_, fun hn => ?_, fun l hl => ?_⟩
  · rw [Row.kill_sz]
    unfold Row.kill at hx
    cases hp : row.pr with
    | true => rw [hp, cond_true] at hx; exact h.el x hx
    | false =>
      rw [hp, cond_false] at hx
      obtain ⟨y, hy, rfl⟩ := List.mem_map.1 hx
      obtain ⟨h1, h2⟩ := h.el y hy
      rw [PV.kill_cells]
      refine ⟨by simpa using h1, fun p hp' => ?_⟩
      obtain ⟨q, hq, rfl⟩ := List.mem_map.1 hp'
      exact PV.kill_one (h2 q hq)
  · have := h.non (hu ▸ hn)
    have hl := Row.kill_len t row
    rw [this] at hl
    exact List.eq_nil_of_length_eq_zero (by simpa using hl)
  · rw [hu] at hl
    obtain ⟨arr, ety, fz, h1, h2, h3, h4, h5⟩ := h.lie l hl
    refine ⟨arr, ety, fz, (hb l hl).trans h1, h2, by rw [Row.kill_len, Row.kill_sz]; exact h3, h4, fun i x j p hi hj => ?_⟩
    rw [Row.kill_sz, Row.kill_pr]
    unfold Row.kill at hi
    cases hp : row.pr with
    | true =>
      rw [hp, cond_true] at hi
      obtain ⟨v, hv, hc⟩ := h5 i x j p hi hj
      refine ⟨v, hv, ?_⟩
      rw [hp] at hc
      unfold CellRel at hc ⊢
      rw [if_pos rfl] at hc ⊢
      exact hc.frame hw hO
    | false =>
      rw [hp, cond_false] at hi
      rw [List.getElem?_map] at hi
      obtain ⟨y, hy, rfl⟩ := Option.map_eq_some_iff.1 hi
      rw [PV.kill_cells, List.getElem?_map] at hj
      obtain ⟨q, hq, rfl⟩ := Option.map_eq_some_iff.1 hj
      obtain ⟨v, hv, hc⟩ := h5 i y j q hy hq
      refine ⟨v, hv, ?_⟩
      rw [hp] at hc
      unfold CellRel at hc ⊢
      rw [if_neg (by simp)] at hc ⊢
      exact hc.killed t hw hO hR
end

section
variable {w0 w : World} {O : Nat → Prop} {L : Lent} {n : Nat} {μ : Mu} {P : Program} {st : St} {a : Act}

theorem killR_inv {t u : Nat} {R : Rows} {r : Row} (h : killR t R u = some r) : u ≠ t ∧ ∃ r', R u = some r' ∧ r = r'.kill t := by
  unfold killR at h
  by_cases hu : u = t
  · rw [hu, beq_true] at h; cases h
  · rw [beq_false hu, cond_false] at h
    obtain ⟨r', hr, rfl⟩ := Option.map_eq_some_iff.1 h
    exact ⟨hu, r', hr, rfl⟩
theorem killR_of {t u : Nat} {R : Rows} {r : Row} (hu : u ≠ t) (h : R u = some r) : killR t R u = some (r.kill t) := by
  unfold killR
  rw [beq_false hu, cond_false, h]
  rfl
theorem killR_none {t u : Nat} {R : Rows} (h : R u = none) : killR t R u = none := by
  unfold killR
  cases Nat.beq u t <;> simp [h]

theorem StRel.kill (h : StRel w0 O L n μ st a w) (t : Nat) (hT : L.T t = false) : StRel w0 O L n μ ⟨killS t st.s, killR t st.r⟩ a w := by
  have hO : ∀ b, b < w.heap.size → Av O μ (killR t st.r) b → Av O μ st.r b := by
    rintro b _ (h1 | ⟨u, r, l, h1, h2, h3⟩)
    · exact .inl h1
    · obtain ⟨hu, r', hr, rfl⟩ := killR_inv h1
      exact .inr ⟨u, r', l, hr, h2, h3⟩
  have hR : ∀ u row, u ≠ t → st.r u = some row → μ u = μ u ∧ ∃ row', killR t st.r u = some row' ∧ row'.sz = row.sz ∧ row'.cs.length = row.cs.length :=
    fun u row hu hr => ⟨rfl, _, killR_of hu hr, Row.kill_sz _ _, Row.kill_len _ _⟩
  refine ⟨h.dfr, h.size, h.fr, h.out, fun k p hk => ?_, fun u r hr => ?_, ?_, ?_, fun u hu => ?_⟩
  · obtain ⟨q, hq, rfl⟩ := Option.map_eq_some_iff.1 hk
    obtain ⟨v, hv, hrel⟩ := h.slot k q hq
    exact ⟨v, hv, hrel.killed t (fun _ _ _ => rfl) hO hR⟩
  · obtain ⟨hu, r', hr', rfl⟩ := killR_inv hr
    exact (h.row u r' hr').killed t (fun _ _ _ => rfl) hO hR rfl (fun _ _ => rfl)
  · intro u u' r r' l l' h1 h2 h3 h4 h5
    obtain ⟨_, s, hs, _⟩ := killR_inv h1
    obtain ⟨_, s', hs', _⟩ := killR_inv h2
    exact h.inj u u' s s' l l' hs hs' h3 h4 h5
  · intro u r l h1 h2
    obtain ⟨_, s, hs, _⟩ := killR_inv h1
    exact h.own u s l hs h2
  · obtain ⟨h1, r, h2⟩ := h.keep u hu
    have hne : u ≠ t := fun e => by rw [e, hT] at hu; cases hu
    exact ⟨h1, _, killR_of hne h2⟩

/-- A row goes on under another name, in the same block, written on. -/
theorem StRel.swap (h : StRel w0 O L n μ st a w) {t : Nat} {row : Row} {l : Loc} (ht : st.r t = some row) (hl : μ t = some l) (hT : L.T t = false) (t' : Nat) (ht' : st.r t' = none) {w' : World} (hfr : Fr (fun b => b = l.b) w w')
    (row' : Row) (l' : Loc) (hlb : l'.b = l.b) (hsz : 0 < row'.sz) (hel : ∀ x ∈ row'.cs, x.cells.length = row'.sz ∧ ∀ p ∈ x.cells, p.one = true) (hpr : row'.pr = true)
    (hlie : ∃ arr ety fz, w'.heap[l.b]? = some (.cells arr ety fz) ∧ l'.base + l'.room ≤ arr.size ∧ row'.cs.length * row'.sz ≤ l'.room ∧ (∀ j, l'.base ≤ j → j < l'.base + l'.room → ¬ (fz.1 ≤ j ∧ j < fz.2)) ∧
      (∀ (i : Nat) (x : PV) (j : Nat) (p : PV), row'.cs[i]? = some x → x.cells[j]? = some p → ∃ v, arr[l'.base + (i * row'.sz + j)]? = some v ∧ Rel0 w (Av O μ st.r) p v)) :
    StRel w0 O L n (upd μ t' (some l')) ⟨killS t st.s, upd (killR t st.r) t' (some row')⟩ a w' := by
  have hOw : Owned μ st.r l.b := ⟨t, row, l, ht, hl, rfl⟩
  have hne : t ≠ t' := fun e => by rw [e, ht'] at ht; cases ht
  have hw : ∀ b, b < w.heap.size → ¬ Av O μ st.r b → w'.heap[b]? = w.heap[b]? := fun b hb hn => hfr.block b hb fun e => hn (.inr (e ▸ hOw))
  have hO : ∀ b, b < w.heap.size → Av O (upd μ t' (some l')) (upd (killR t st.r) t' (some row')) b → Av O μ st.r b := by
    rintro b _ (h1 | ⟨u, r, k, h1, h2, h3⟩)
    · exact .inl h1
    · by_cases hu : u = t'
      · subst hu
        rw [upd_same] at h2
        cases h2
        rw [← h3, hlb]
        exact .inr hOw
      · rw [upd_ne _ _ hu] at h1 h2
        obtain ⟨_, r', hr, _⟩ := killR_inv h1
        exact .inr ⟨u, r', k, hr, h2, h3⟩
  have hR : ∀ u r, u ≠ t → st.r u = some r → upd μ t' (some l') u = μ u ∧ ∃ r', upd (killR t st.r) t' (some row') u = some r' ∧ r'.sz = r.sz ∧ r'.cs.length = r.cs.length := by
    intro u r hu hr
    have hut : u ≠ t' := fun e => by rw [e, ht'] at hr; cases hr
    exact ⟨upd_ne _ _ hut, _, by rw [upd_ne _ _ hut]; exact killR_of hu hr, Row.kill_sz _ _, Row.kill_len _ _⟩
  refine ⟨h.dfr, h.size, h.fr.trans hfr (fun x hx e => ?_), h.out, fun k p hk => ?_, fun u r hr => ?_, ?_, ?_, fun u hu => ?_⟩
  · subst e
    rcases (h.own t row l ht hl).2 with h1 | h1
    · omega
    · exact h1
  · obtain ⟨q, hq, rfl⟩ := Option.map_eq_some_iff.1 hk
    obtain ⟨v, hv, hrel⟩ := h.slot k q hq
    exact ⟨v, hv, hrel.killed t hw hO hR⟩
  · by_cases hu : u = t'
    · subst hu
      simp only [upd_same, Option.some.injEq] at hr
      subst hr
      refine ⟨hsz, hel, (fun hn => by rw [upd_same] at hn; cases hn), fun k hk => ?_⟩
      rw [upd_same] at hk
      cases hk
      obtain ⟨arr, ety, fz, g1, g2, g3, g4, g5⟩ := hlie
      refine ⟨arr, ety, fz, by rw [hlb]; exact g1, g2, g3, g4, fun i x j p hi hj => ?_⟩
      obtain ⟨v, hv, hr0⟩ := g5 i x j p hi hj
      refine ⟨v, hv, ?_⟩
      unfold CellRel
      rw [hpr, if_pos rfl]
      exact hr0.frame hw hO
    · simp only [upd_ne _ _ hu] at hr
      obtain ⟨hut, r', hr', rfl⟩ := killR_inv hr
      refine (h.row u r' hr').killed t hw hO hR (upd_ne _ _ hu) (fun k hk => hfr.block _ (h.block_lt hr' hk) fun e => hut ?_)
      exact h.inj u t r' row k l hr' ht hk hl e
  · intro u u' r r' k k' h1 h2 h3 h4 h5
    by_cases hu : u = t'
    · by_cases hu' : u' = t'
      · rw [hu, hu']
      · subst hu
        simp only [upd_ne _ _ hu'] at h2 h4
        rw [upd_same] at h3
        cases h3
        obtain ⟨hut, s, hs, _⟩ := killR_inv h2
        exact absurd (h.inj t u' row s l k' ht hs hl h4 (hlb ▸ h5)) (Ne.symm hut)
    · simp only [upd_ne _ _ hu] at h1 h3
      obtain ⟨hut, s, hs, _⟩ := killR_inv h1
      by_cases hu' : u' = t'
      · subst hu'
        rw [upd_same] at h4
        cases h4
        exact absurd (h.inj u t s row k l hs ht h3 hl (h5.trans hlb)) hut
      · simp only [upd_ne _ _ hu'] at h2 h4
        obtain ⟨_, s', hs', _⟩ := killR_inv h2
        exact h.inj u u' s s' k k' hs hs' h3 h4 h5
  · intro u r k h1 h2
    by_cases hu : u = t'
    · subst hu
      rw [upd_same] at h2
      cases h2
      rw [hlb]
      exact h.own t row l ht hl
    · simp only [upd_ne _ _ hu] at h1 h2
      obtain ⟨_, s, hs, _⟩ := killR_inv h1
      exact h.own u s k hs h2
  · obtain ⟨h1, r, h2⟩ := h.keep u hu
    have hne : u ≠ t := fun e => by rw [e, hT] at hu; cases hu
    have hne' : u ≠ t' := fun e => by rw [e, ht'] at h2; cases h2
    exact ⟨(upd_ne _ _ hne').trans h1, _, (upd_ne _ _ hne').trans (killR_of hne h2)⟩
end
end Go.Vd
