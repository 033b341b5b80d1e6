/- States put in order: what is needed on, as lists; rows that nobody writes any more. -/
import Derived.Test.YtgogpopeldnddaaVdY
set_option linter.unusedVariables false
set_option linter.unusedSimpArgs false
namespace Go.Vd
open Go.RowKit

def ofL {α : Type} : List (Nat × α) → Nat → Option α
  | [], _ => none
  | (k, v) :: r, n => bif Nat.beq n k then some v else ofL r n

def AllAt {α : Type} (f : Nat → Option α) : List (Nat × α) → Prop
  | [] => True
  | (k, v) :: r => f k = some v ∧ AllAt f r

theorem AllAt.get {α : Type} {f : Nat → Option α} : ∀ {l : List (Nat × α)}, AllAt f l → ∀ k v, ofL l k = some v → f k = some v
  | [], _, k, v, h => by simp [ofL] at h
  | (k', v') :: r, ⟨h1, h2⟩, k, v, h => by
    unfold ofL at h
    cases hk : Nat.beq k k' with
    | true => rw [hk] at h; cases h; rw [Nat.eq_of_beq_eq_true hk]; exact h1
    | false => rw [hk] at h; exact AllAt.get h2 k v h

theorem ofL_mem {α : Type} : ∀ {l : List (Nat × α)} {k : Nat} {v : α}, ofL l k = some v → v ∈ l.map (·.2)
  | [], k, v, h => by simp [ofL] at h
  | (k', v') :: r, k, v, h => by
    unfold ofL at h
    cases hk : Nat.beq k k' with
    | true => rw [hk] at h; cases h; simp
    | false => rw [hk] at h; simp only [List.map_cons]; exact List.mem_cons_of_mem _ (ofL_mem h)

def rowsTk (f : Nat → Bool) : List Row → Bool
  | [] => true
  | r :: rs => r.tk f && rowsTk f rs
theorem rowsTk_mem {f : Nat → Bool} : ∀ {l : List Row}, rowsTk f l = true → ∀ r ∈ l, r.tk f = true
  | [], _, r, h => by cases h
  | x :: xs, h, r, hr => by
    rw [rowsTk, Bool.and_eq_true] at h
    rcases List.mem_cons.1 hr with e | e
    · rw [e]; exact h.1
    · exact rowsTk_mem h.2 r e

section
variable {P : Program} {T : Nat → Bool}

/-- What is needed on, alone. -/
theorem canonL {st : St} (l : List (Nat × PV)) (m : List (Nat × Row)) (hs : AllAt st.s l) (hr : AllAt st.r m) (h1 : PV.tks (fun t => (ofL m t).isSome) (l.map (·.2)) = true) (h2 : rowsTk (fun t => (ofL m t).isSome) (m.map (·.2)) = true)
    (hT : ∀ t, T t = true → (ofL m t).isSome = true) : Norm T st ⟨ofL l, ofL m⟩ := by
  intro w0 O L n μ a w hL h
  refine ⟨μ, h.canon (fun k p hk => ⟨hs.get k p hk, PV.tks_mem h1 p (ofL_mem hk)⟩) (fun t row ht => ⟨hr.get t row ht, rowsTk_mem h2 row (ofL_mem ht)⟩) fun t ht => hT t (hL ▸ ht)⟩

def ffs (t : Nat) (row : Row) : Nat → Nat → Nat → PV := fun u lo n => bif Nat.beq u t then .sl row.sz ((row.cs.drop lo).take n) else .slr u lo n
def PV.frz (t : Nat) (row : Row) (p : PV) : PV := p.map (ffs t row) (kfp t)
def Row.frz (t : Nat) (r : Row) (row : Row) : Row := bif r.pr then r else ⟨r.sz, r.pr, r.cs.map (PV.frz t row)⟩
def frzS (t : Nat) (row : Row) (s : Slots) : Slots := fun k => (s k).map (PV.frz t row)
def frzR (t : Nat) (row : Row) (r : Rows) : Rows := fun u => bif Nat.beq u t then none else (r u).map (fun r => r.frz t row)

theorem ffs_one (t : Nat) (row : Row) (u lo n : Nat) : (ffs t row u lo n).one = true := by unfold ffs; cases Nat.beq u t <;> rfl
theorem PV.frz_one {t : Nat} {row : Row} {p : PV} (h : p.one = true) : (p.frz t row).one = true := PV.map_one (ffs_one t row) (kfp_one t) p h
theorem PV.frz_cells (t : Nat) (row : Row) (p : PV) : (p.frz t row).cells = p.cells.map (PV.frz t row) := PV.map_cells (ffs_one t row) (kfp_one t) p
theorem Row.frz_sz (t : Nat) (r row : Row) : (r.frz t row).sz = r.sz := by unfold Row.frz; cases r.pr <;> rfl
theorem Row.frz_pr (t : Nat) (r row : Row) : (r.frz t row).pr = r.pr := by unfold Row.frz; cases h : r.pr <;> simp [h]
theorem Row.frz_len (t : Nat) (r row : Row) : (r.frz t row).cs.length = r.cs.length := by unfold Row.frz; cases r.pr <;> simp

theorem frzR_inv {t u : Nat} {row : Row} {R : Rows} {r : Row} (h : frzR t row R u = some r) : u ≠ t ∧ ∃ r', R u = some r' ∧ r = r'.frz t row := by
  unfold frzR at h
  by_cases hu : u = t
  · rw [hu, beq_true] at h; cases h
  · rw [beq_false hu, cond_false] at h
    obtain ⟨r', hr, rfl⟩ := Option.map_eq_some_iff.1 h
    exact ⟨hu, r', hr, rfl⟩
theorem frzR_of {t u : Nat} {row : Row} {R : Rows} {r : Row} (hu : u ≠ t) (h : R u = some r) : frzR t row R u = some (r.frz t row) := by
  unfold frzR
  rw [beq_false hu, cond_false, h]
  rfl

theorem StRel.freeze {w0 w : World} {O : Nat → Prop} {L : Lent} {n : Nat} {μ : Mu} {st : St} {a : Act} (h : StRel w0 O L n μ st a w) (t : Nat) (row : Row) (ht : st.r t = some row) (hpr : row.pr = true) (hT : L.T t = false) : StRel w0 O L n μ ⟨frzS t row st.s, frzR t row st.r⟩ a w := by
  have hO : ∀ b, Av O μ (frzR t row st.r) b → Av O μ st.r b := by
    rintro b (h1 | ⟨u, r, l, h1, h2, h3⟩)
    · exact .inl h1
    · obtain ⟨hu, r', hr, rfl⟩ := frzR_inv h1
      exact .inr ⟨u, r', l, hr, h2, h3⟩
  have hown : ∀ l, μ t = some l → ¬ Av O μ (frzR t row st.r) l.b := by
    rintro l hl (h1 | ⟨u, r, l', h1, h2, h3⟩)
    · exact (h.own t row l ht hl).1 h1
    · obtain ⟨hu, r', hr, rfl⟩ := frzR_inv h1
      exact hu (h.inj u t r' row l' l hr ht h2 hl h3)
  have hR : ∀ u r, u ≠ t → st.r u = some r → ∃ r', frzR t row st.r u = some r' ∧ r'.sz = r.sz ∧ r'.cs.length = r.cs.length :=
    fun u r hu hr => ⟨_, frzR_of hu hr, Row.frz_sz _ _ _, Row.frz_len _ _ _⟩
  have key : ∀ {p : PV} {v : Value}, Rel w (Av O μ st.r) μ st.r p v → Rel w (Av O μ (frzR t row st.r)) μ (frzR t row st.r) (p.frz t row) v := by
    intro p v hp
    refine Rel.map (fs := ffs t row) (fp := kfp t) (fun _ _ _ => rfl) (fun b _ hb => hO b hb) (ffs_one t row) (kfp_one t) (fun u lo m v hv => ?_) (fun u i o v hv => ?_) hp
    · unfold ffs
      by_cases hu : u = t
      · subst hu
        rw [beq_true]
        exact .base _ _ (sub_slice h.rows ht hpr hv hO hown)
      · rw [beq_false hu]
        cases hv with
        | base _ _ h => cases h
        | slr _ _ _ c r l hr hm hn hc hroom =>
          obtain ⟨r', h2, h3, h4⟩ := hR u r hu hr
          rw [← h3]
          exact .slr u lo m c r' l h2 hm (by omega) hc (by rw [h3]; exact hroom)
        | slr0 _ _ r A hr hn =>
          obtain ⟨r', h2, h3, h4⟩ := hR u r hu hr
          exact .slr0 u lo r' A h2 (by omega)
    · unfold kfp
      by_cases hu : u = t
      · rw [hu, beq_true]
        exact .base _ _ (.any v (hv.oneCell rfl))
      · rw [beq_false hu]
        cases hv with
        | base _ _ h => cases h
        | ptr _ _ _ r l hr hm hi ho =>
          obtain ⟨r', h2, h3, h4⟩ := hR u r hu hr
          rw [← h3]
          exact .ptr u i o r' l h2 hm (by omega) (by omega)
  refine ⟨h.dfr, h.size, h.fr, h.out, fun k p hk => ?_, fun u r hr => ?_, ?_, ?_, fun u hu => ?_⟩
  · obtain ⟨q, hq, rfl⟩ := Option.map_eq_some_iff.1 hk
    obtain ⟨v, hv, hrel⟩ := h.slot k q hq
    exact ⟨v, hv, key hrel⟩
  · obtain ⟨hu, r', hr', rfl⟩ := frzR_inv hr
    have hrr := h.row u r' hr'
    refine ⟨by rw [Row.frz_sz]; exact hrr.sz, fun x hx => ?_, fun hn => ?_, fun l hl => ?_⟩
    · rw [Row.frz_sz]
      unfold Row.frz at hx
      cases hp : r'.pr with
      | true => rw [hp, cond_true] at hx; exact hrr.el x hx
      | false =>
        rw [hp, cond_false] at hx
        obtain ⟨y, hy, rfl⟩ := List.mem_map.1 hx
        obtain ⟨h1, h2⟩ := hrr.el y hy
        rw [PV.frz_cells]
        refine ⟨by simpa using h1, fun p hp' => ?_⟩
        obtain ⟨q, hq, rfl⟩ := List.mem_map.1 hp'
        exact PV.frz_one (h2 q hq)
    · have := hrr.non hn
      have hl := Row.frz_len t r' row
      rw [this] at hl
      exact List.eq_nil_of_length_eq_zero (by simpa using hl)
    · obtain ⟨arr, ety, fz, h1, h2, h3, h4, h5⟩ := hrr.lie l hl
      refine ⟨arr, ety, fz, h1, h2, by rw [Row.frz_len, Row.frz_sz]; exact h3, h4, fun i x j p hi hj => ?_⟩
      rw [Row.frz_sz, Row.frz_pr]
      unfold Row.frz at hi
      cases hp : r'.pr with
      | true =>
        rw [hp, cond_true] at hi
        obtain ⟨v, hv, hc⟩ := h5 i x j p hi hj
        refine ⟨v, hv, ?_⟩
        rw [hp] at hc
        unfold CellRel at hc ⊢
        rw [if_pos rfl] at hc ⊢
        exact hc.frame (fun _ _ _ => rfl) (fun b _ hb => hO b hb)
      | false =>
        rw [hp, cond_false] at hi
        rw [List.getElem?_map] at hi
        obtain ⟨y, hy, rfl⟩ := Option.map_eq_some_iff.1 hi
        rw [PV.frz_cells, List.getElem?_map] at hj
        obtain ⟨q, hq, rfl⟩ := Option.map_eq_some_iff.1 hj
        obtain ⟨v, hv, hc⟩ := h5 i y j q hy hq
        refine ⟨v, hv, ?_⟩
        rw [hp] at hc
        unfold CellRel at hc ⊢
        rw [if_neg (by simp)] at hc ⊢
        exact key hc
  · intro u u' r r' l l' h1 h2 h3 h4 h5
    obtain ⟨_, s, hs, _⟩ := frzR_inv h1
    obtain ⟨_, s', hs', _⟩ := frzR_inv h2
    exact h.inj u u' s s' l l' hs hs' h3 h4 h5
  · intro u r l h1 h2
    obtain ⟨_, s, hs, _⟩ := frzR_inv h1
    exact h.own u s l hs h2
  · obtain ⟨h1, r, h2⟩ := h.keep u hu
    have hne : u ≠ t := fun e => by rw [e, hT] at hu; cases hu
    exact ⟨h1, _, frzR_of hne h2⟩

theorem freeze {st : St} (t : Nat) (row : Row) (ht : st.r t = some row) (hpr : row.pr = true) (hT : T t = false) : Norm T st ⟨frzS t row st.s, frzR t row st.r⟩ := by
  intro w0 O L n μ a w hL h
  exact ⟨μ, h.freeze t row ht hpr (hL ▸ hT)⟩

def rns (t t' : Nat) : Nat → Nat → Nat → PV := fun u lo n => bif Nat.beq u t then .slr t' lo n else .slr u lo n
def rnp (t t' : Nat) : Nat → Nat → Nat → PV := fun u i o => bif Nat.beq u t then .ptr t' i o else .ptr u i o
def PV.ren (t t' : Nat) (p : PV) : PV := p.map (rns t t') (rnp t t')
def Row.ren (t t' : Nat) (r : Row) : Row := bif r.pr then r else ⟨r.sz, r.pr, r.cs.map (PV.ren t t')⟩
def renS (t t' : Nat) (s : Slots) : Slots := fun k => (s k).map (PV.ren t t')
def renR (t t' : Nat) (r : Rows) : Rows := fun u => bif Nat.beq u t' then (r t).map (Row.ren t t') else bif Nat.beq u t then none else (r u).map (Row.ren t t')

theorem rns_one (t t' u lo n : Nat) : (rns t t' u lo n).one = true := by unfold rns; cases Nat.beq u t <;> rfl
theorem rnp_one (t t' u lo n : Nat) : (rnp t t' u lo n).one = true := by unfold rnp; cases Nat.beq u t <;> rfl
theorem PV.ren_one {t t' : Nat} {p : PV} (h : p.one = true) : (p.ren t t').one = true := PV.map_one (rns_one t t') (rnp_one t t') p h
theorem PV.ren_cells (t t' : Nat) (p : PV) : (p.ren t t').cells = p.cells.map (PV.ren t t') := PV.map_cells (rns_one t t') (rnp_one t t') p
theorem Row.ren_sz (t t' : Nat) (r : Row) : (r.ren t t').sz = r.sz := by unfold Row.ren; cases r.pr <;> rfl
theorem Row.ren_pr (t t' : Nat) (r : Row) : (r.ren t t').pr = r.pr := by unfold Row.ren; cases h : r.pr <;> simp [h]
theorem Row.ren_len (t t' : Nat) (r : Row) : (r.ren t t').cs.length = r.cs.length := by unfold Row.ren; cases r.pr <;> simp

theorem renR_new {t t' : Nat} {R : Rows} {r : Row} (h : R t = some r) : renR t t' R t' = some (r.ren t t') := by unfold renR; rw [beq_true, cond_true, h]; rfl
theorem renR_of {t t' u : Nat} {R : Rows} {r : Row} (hu : u ≠ t) (hu' : u ≠ t') (h : R u = some r) : renR t t' R u = some (r.ren t t') := by
  unfold renR
  rw [beq_false hu', cond_false, beq_false hu, cond_false, h]
  rfl
theorem renR_inv {t t' u : Nat} {R : Rows} {r : Row} (h : renR t t' R u = some r) : ∃ r', r = r'.ren t t' ∧ ((u = t' ∧ R t = some r') ∨ (u ≠ t' ∧ u ≠ t ∧ R u = some r')) := by
  unfold renR at h
  by_cases hu : u = t'
  · rw [hu, beq_true, cond_true] at h
    obtain ⟨r', hr, rfl⟩ := Option.map_eq_some_iff.1 h
    exact ⟨r', rfl, .inl ⟨hu, hr⟩⟩
  · rw [beq_false hu, cond_false] at h
    by_cases hu' : u = t
    · rw [hu', beq_true] at h; cases h
    · rw [beq_false hu', cond_false] at h
      obtain ⟨r', hr, rfl⟩ := Option.map_eq_some_iff.1 h
      exact ⟨r', rfl, .inr ⟨hu, hu', hr⟩⟩

/-- A row under another name. -/
theorem StRel.rename {w0 w : World} {O : Nat → Prop} {L : Lent} {n : Nat} {μ : Mu} {st : St} {a : Act} (h : StRel w0 O L n μ st a w) (t t' : Nat) (ht' : st.r t' = none) (hT : L.T t = false) :
    StRel w0 O L n (upd μ t' (μ t)) ⟨renS t t' st.s, renR t t' st.r⟩ a w := by
  have hmu : ∀ {u : Nat} {r : Row}, renR t t' st.r u = some r → ∃ v r', r = r'.ren t t' ∧ st.r v = some r' ∧ upd μ t' (μ t) u = μ v ∧ ((u = t' ∧ v = t) ∨ (u ≠ t' ∧ u = v ∧ u ≠ t)) := by
    intro u r hr
    obtain ⟨r', e, ⟨h1, h2⟩ | ⟨h1, h2, h3⟩⟩ := renR_inv hr
    · exact ⟨t, r', e, h2, by rw [h1, upd_same], .inl ⟨h1, rfl⟩⟩
    · exact ⟨u, r', e, h3, upd_ne _ _ h1, .inr ⟨h1, rfl, h2⟩⟩
  have hO : ∀ b, Av O (upd μ t' (μ t)) (renR t t' st.r) b → Av O μ st.r b := by
    rintro b (h1 | ⟨u, r, l, h1, h2, h3⟩)
    · exact .inl h1
    · obtain ⟨v, r', _, g1, g2, _⟩ := hmu h1
      exact .inr ⟨v, r', l, g1, g2 ▸ h2, h3⟩
  have hnt : ∀ {u : Nat} {r : Row}, st.r u = some r → u ≠ t' := fun hr e => by rw [e, ht'] at hr; cases hr
  have hR : ∀ u r, st.r u = some r → ∃ v r', renR t t' st.r v = some r' ∧ r'.sz = r.sz ∧ r'.cs.length = r.cs.length ∧ upd μ t' (μ t) v = μ u ∧ v = (bif Nat.beq u t then t' else u) := by
    intro u r hr
    by_cases hu : u = t
    · subst hu; exact ⟨t', _, renR_new hr, Row.ren_sz _ _ _, Row.ren_len _ _ _, upd_same _ _ _, by rw [beq_true]; rfl⟩
    · exact ⟨u, _, renR_of hu (hnt hr) hr, Row.ren_sz _ _ _, Row.ren_len _ _ _, upd_ne _ _ (hnt hr), by rw [beq_false hu]; rfl⟩
  have key : ∀ {p : PV} {v : Value}, Rel w (Av O μ st.r) μ st.r p v → Rel w (Av O (upd μ t' (μ t)) (renR t t' st.r)) (upd μ t' (μ t)) (renR t t' st.r) (p.ren t t') v := by
    intro p v hp
    refine Rel.map (fs := rns t t') (fp := rnp t t') (fun _ _ _ => rfl) (fun b _ hb => hO b hb) (rns_one t t') (rnp_one t t') (fun u lo m v hv => ?_) (fun u i o v hv => ?_) hp
    · have hrn : rns t t' u lo m = .slr (bif Nat.beq u t then t' else u) lo m := by unfold rns; cases Nat.beq u t <;> rfl
      rw [hrn]
      cases hv with
      | base _ _ h => cases h
      | slr _ _ _ c r l hr hm hn hc hroom =>
        obtain ⟨v, r', h2, h3, h4, h5, h6⟩ := hR u r hr
        rw [← h6, ← h3]
        exact .slr v lo m c r' l h2 (h5.trans hm) (by omega) hc (by rw [h3]; exact hroom)
      | slr0 _ _ r A hr hn =>
        obtain ⟨v, r', h2, h3, h4, h5, h6⟩ := hR u r hr
        rw [← h6]
        exact .slr0 v lo r' A h2 (by omega)
    · have hrn : rnp t t' u i o = .ptr (bif Nat.beq u t then t' else u) i o := by unfold rnp; cases Nat.beq u t <;> rfl
      rw [hrn]
      cases hv with
      | base _ _ h => cases h
      | ptr _ _ _ r l hr hm hi ho =>
        obtain ⟨v, r', h2, h3, h4, h5, h6⟩ := hR u r hr
        rw [← h6, ← h3]
        exact .ptr v i o r' l h2 (h5.trans hm) (by omega) (by omega)
  refine ⟨h.dfr, h.size, h.fr, h.out, fun k p hk => ?_, fun u r hr => ?_, ?_, ?_, fun u hu => ?_⟩
  · obtain ⟨q, hq, rfl⟩ := Option.map_eq_some_iff.1 hk
    obtain ⟨v, hv, hrel⟩ := h.slot k q hq
    exact ⟨v, hv, key hrel⟩
  · obtain ⟨v, r', rfl, hr', hm, _⟩ := hmu hr
    have hrr := h.row v r' hr'
    refine ⟨by rw [Row.ren_sz]; exact hrr.sz, fun x hx => ?_, fun hn => ?_, fun l hl => ?_⟩
    · rw [Row.ren_sz]
      unfold Row.ren at hx
      cases hp : r'.pr with
      | true => rw [hp, cond_true] at hx; exact hrr.el x hx
      | false =>
        rw [hp, cond_false] at hx
        obtain ⟨y, hy, rfl⟩ := List.mem_map.1 hx
        obtain ⟨h1, h2⟩ := hrr.el y hy
        rw [PV.ren_cells]
        refine ⟨by simpa using h1, fun p hp' => ?_⟩
        obtain ⟨q, hq, rfl⟩ := List.mem_map.1 hp'
        exact PV.ren_one (h2 q hq)
    · have := hrr.non (hm ▸ hn)
      have hl := Row.ren_len t t' r'
      rw [this] at hl
      exact List.eq_nil_of_length_eq_zero (by simpa using hl)
    · rw [hm] at hl
      obtain ⟨arr, ety, fz, h1, h2, h3, h4, h5⟩ := hrr.lie l hl
      refine ⟨arr, ety, fz, h1, h2, by rw [Row.ren_len, Row.ren_sz]; exact h3, h4, fun i x j p hi hj => ?_⟩
      rw [Row.ren_sz, Row.ren_pr]
      unfold Row.ren at hi
      cases hp : r'.pr with
      | true =>
        rw [hp, cond_true] at hi
        obtain ⟨v, hv, hc⟩ := h5 i x j p hi hj
        refine ⟨v, hv, ?_⟩
        rw [hp] at hc
        unfold CellRel at hc ⊢
        rw [if_pos rfl] at hc ⊢
        exact hc.frame (fun _ _ _ => rfl) (fun b _ hb => hO b hb)
      | false =>
        rw [hp, cond_false] at hi
        rw [List.getElem?_map] at hi
        obtain ⟨y, hy, rfl⟩ := Option.map_eq_some_iff.1 hi
        rw [PV.ren_cells, List.getElem?_map] at hj
        obtain ⟨q, hq, rfl⟩ := Option.map_eq_some_iff.1 hj
        obtain ⟨v, hv, hc⟩ := h5 i y j q hy hq
        refine ⟨v, hv, ?_⟩
        rw [hp] at hc
        unfold CellRel at hc ⊢
        rw [if_neg (by simp)] at hc ⊢
        exact key hc
  · intro u u' r r' l l' h1 h2 h3 h4 h5
    obtain ⟨v, s, _, g1, g2, g3⟩ := hmu h1
    obtain ⟨v', s', _, k1, k2, k3⟩ := hmu h2
    have := h.inj v v' s s' l l' g1 k1 (g2 ▸ h3) (k2 ▸ h4) h5
    rcases g3 with ⟨a1, a2⟩ | ⟨a1, a2, a3⟩
    · rcases k3 with ⟨b1, b2⟩ | ⟨b1, b2, b3⟩
      · rw [a1, b1]
      · exact absurd (b2.trans (this.symm.trans a2)) b3
    · rcases k3 with ⟨b1, b2⟩ | ⟨b1, b2, b3⟩
      · exact absurd (a2.trans (this.trans b2)) a3
      · rw [a2, b2, this]
  · intro u r l h1 h2
    obtain ⟨v, s, _, g1, g2, _⟩ := hmu h1
    exact h.own v s l g1 (g2 ▸ h2)
  · obtain ⟨h1, r, h2⟩ := h.keep u hu
    have hne : u ≠ t := fun e => by rw [e, hT] at hu; cases hu
    exact ⟨(upd_ne _ _ (hnt h2)).trans h1, _, renR_of hne (hnt h2) h2⟩

theorem rename {st : St} (t t' : Nat) (ht' : st.r t' = none) (hT : T t = false) : Norm T st ⟨renS t t' st.s, renR t t' st.r⟩ := by
  intro w0 O L n μ a w hL h
  exact ⟨_, h.rename t t' ht' (hL ▸ hT)⟩

theorem ofL_some {α : Type} : ∀ {l : List (Nat × α)} {k : Nat} {v : α}, (k, v) ∈ l → ∃ u, ofL l k = some u
  | [], k, v, h => by cases h
  | (k', v') :: r, k, v, h => by
    unfold ofL
    cases hk : Nat.beq k k' with
    | true => exact ⟨v', rfl⟩
    | false =>
      rcases List.mem_cons.1 h with e | e
      · cases e; rw [beq_true] at hk; cases hk
      · exact ofL_some e
theorem AllAt.mem {α : Type} {f : Nat → Option α} : ∀ {l : List (Nat × α)}, AllAt f l → ∀ k v, (k, v) ∈ l → f k = some v
  | [], _, k, v, h => by cases h
  | (k', v') :: r, ⟨h1, h2⟩, k, v, h => by
    rcases List.mem_cons.1 h with e | e
    · cases e; exact h1
    · exact AllAt.mem h2 k v e
theorem AllAt.of {α : Type} {f : Nat → Option α} : ∀ {l : List (Nat × α)}, (∀ k v, (k, v) ∈ l → f k = some v) → AllAt f l
  | [], _ => trivial
  | (k, v) :: r, h => ⟨h k v (by simp), AllAt.of fun k' v' h' => h k' v' (by simp [h'])⟩
/-- The list's own function holds what the list says. -/
theorem AllAt.own {α : Type} {f : Nat → Option α} {l : List (Nat × α)} (h : AllAt f l) : AllAt (ofL l) l := by
  refine AllAt.of fun k v hm => ?_
  obtain ⟨u, hu⟩ := ofL_some hm
  rw [hu, ← h.get k u hu, h.mem k v hm]

/-- What is needed on, with rows that nobody writes any more: their slices are values. -/
theorem canonF (t : Nat) (row : Row) {st : St} (l : List (Nat × PV)) (m : List (Nat × Row)) (hrow : st.r t = some row) (hpr : row.pr = true) (hT0 : T t = false) (hs : AllAt (frzS t row st.s) l) (hr : AllAt (frzR t row st.r) m)
    (h1 : PV.tks (fun t => (ofL m t).isSome) (l.map (·.2)) = true) (h2 : rowsTk (fun t => (ofL m t).isSome) (m.map (·.2)) = true) (hT : ∀ t, T t = true → (ofL m t).isSome = true) : Norm T st ⟨ofL l, ofL m⟩ :=
  (freeze t row hrow hpr hT0).trans (canonL l m hs hr h1 h2 hT)
/-- .. with a row under another name. -/
theorem canonR (t t' : Nat) {st : St} (l : List (Nat × PV)) (m : List (Nat × Row)) (hs : AllAt st.s l) (hr : AllAt st.r m) (h1 : PV.tks (fun t => (ofL m t).isSome) (l.map (·.2)) = true) (h2 : rowsTk (fun t => (ofL m t).isSome) (m.map (·.2)) = true) (hT : ∀ t, T t = true → (ofL m t).isSome = true)
    (hf : ofL m t' = none) (hT0 : T t = false) (l' : List (Nat × PV)) (m' : List (Nat × Row)) (hs' : AllAt (renS t t' (ofL l)) l') (hr' : AllAt (renR t t' (ofL m)) m') (h1' : PV.tks (fun t => (ofL m' t).isSome) (l'.map (·.2)) = true)
    (h2' : rowsTk (fun t => (ofL m' t).isSome) (m'.map (·.2)) = true) (hT' : ∀ t, T t = true → (ofL m' t).isSome = true) : Norm T st ⟨ofL l', ofL m'⟩ :=
  (canonL l m hs hr h1 h2 hT).trans ((rename t t' hf hT0).trans (canonL l' m' hs' hr' h1' h2' hT'))

/-- The same where nothing is lent. -/
theorem canon0 {st : St} {l : List (Nat × PV)} {m : List (Nat × Row)} (hs : AllAt st.s l) (hr : AllAt st.r m) (h1 : PV.tks (fun t => (ofL m t).isSome) (l.map (·.2)) = true) (h2 : rowsTk (fun t => (ofL m t).isSome) (m.map (·.2)) = true) : Norm (fun _ => false) st ⟨ofL l, ofL m⟩ :=
  canonL (T := fun _ => false) l m hs hr h1 h2 nofun
theorem canonF0 (t : Nat) (row : Row) {st : St} {l : List (Nat × PV)} {m : List (Nat × Row)} (hrow : st.r t = some row) (hpr : row.pr = true) (hs : AllAt (frzS t row st.s) l) (hr : AllAt (frzR t row st.r) m)
    (h1 : PV.tks (fun t => (ofL m t).isSome) (l.map (·.2)) = true) (h2 : rowsTk (fun t => (ofL m t).isSome) (m.map (·.2)) = true) : Norm (fun _ => false) st ⟨ofL l, ofL m⟩ :=
  canonF (T := fun _ => false) t row l m hrow hpr rfl hs hr h1 h2 nofun
theorem canonR0 (t t' : Nat) {st : St} (l : List (Nat × PV)) (m : List (Nat × Row)) {l' : List (Nat × PV)} {m' : List (Nat × Row)} (hs : AllAt st.s l) (hr : AllAt st.r m) (h1 : PV.tks (fun t => (ofL m t).isSome) (l.map (·.2)) = true) (h2 : rowsTk (fun t => (ofL m t).isSome) (m.map (·.2)) = true)
    (hf : ofL m t' = none) (hs' : AllAt (renS t t' (ofL l)) l') (hr' : AllAt (renR t t' (ofL m)) m') (h1' : PV.tks (fun t => (ofL m' t).isSome) (l'.map (·.2)) = true)
    (h2' : rowsTk (fun t => (ofL m' t).isSome) (m'.map (·.2)) = true) : Norm (fun _ => false) st ⟨ofL l', ofL m'⟩ :=
  canonR (T := fun _ => false) t t' l m hs hr h1 h2 nofun hf rfl l' m' hs' hr' h1' h2' nofun

/-- A nil slice as a slice of an own row that is empty. -/
theorem nlrow (k t sz : Nat) (pr : Bool) {st : St} (hk : st.s k = some .nl) (ht : st.r t = none) (hz : Nat.ble 1 sz = true) : Norm T st ⟨upd st.s k (some (.slr t 0 0)), upd st.r t (some ⟨sz, pr, []⟩)⟩ := by
  intro w0 O L n μ a w hL h
  have h1 := h.empty t ht sz (Nat.le_of_ble_eq_true hz) pr
  refine ⟨_, h1.dfr, h1.size, h1.fr, h1.out, fun j p hj => ?_, h1.row, h1.inj, h1.own, h1.keep⟩
  by_cases hjk : j = k
  · subst hjk
    simp only [upd_same, Option.some.injEq] at hj
    subst hj
    obtain ⟨v, hv, hr⟩ := h.slot j .nl hk
    refine ⟨v, hv, ?_⟩
    cases hr with
    | base _ _ h => cases h with | nl A => exact .slr0 t 0 ⟨sz, pr, []⟩ A (upd_same _ _ _) (Nat.le_refl _)
  · simp only [upd_ne _ _ hjk] at hj
    exact h1.slot j p hj

/-- A loop from a state that is put in order. -/
theorem loop_norm {b : IC} {st st1 : St} {Q : Xt → St → Prop} (hn : Norm T st st1) (h : ∃ e st', Ex P T (.loop b) st1 e st' ∧ Q e st') : ∃ e st', Ex P T (.loop b) st e st' ∧ Q e st' := by
  obtain ⟨e, st', h1, h2⟩ := h
  exact ⟨e, st', .norm hn h1, h2⟩
end
end Go.Vd
