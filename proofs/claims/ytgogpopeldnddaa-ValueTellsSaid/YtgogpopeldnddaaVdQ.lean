/- Contracts of functions, and what a call does to the state. -/
import Derived.Test.YtgogpopeldnddaaVdP
set_option linter.unusedVariables false
set_option linter.unusedSimpArgs false
namespace Go.Vd
open Go.RowKit

mutual
/-- Values that lead to no memory that nobody writes. -/
def PV.nosl : PV → Bool
  | .sl _ [] => true
  | .sl _ (_ :: _) => false
  | .ep _ => false
  | .agg cs => PV.nosls cs
  | .tup cs => PV.nosls cs
  | .clo _ cs => PV.nosls cs
  | .ifc _ v => PV.nosl v
  | _ => true
def PV.nosls : List PV → Bool
  | [] => true
  | p :: r => PV.nosl p && PV.nosls r
end

theorem PV.nosls_mem : ∀ {l : List PV}, PV.nosls l = true → ∀ p ∈ l, p.nosl = true
  | [], _, p, hp => by cases hp
  | q :: r, h, p, hp => by
    rw [PV.nosls, Bool.and_eq_true] at h
    rcases List.mem_cons.1 hp with e | e
    · rw [e]; exact h.1
    · exact PV.nosls_mem h.2 p e

theorem PV.nosl_cells {p : PV} (h : p.nosl = true) : ∀ q ∈ p.cells, q.nosl = true := by
  cases p <;> intro q hq <;> simp only [PV.cells, List.mem_singleton] at hq
  case agg cs => exact PV.nosls_mem (by simpa [PV.nosl] using h) q hq
  all_goals (subst hq; exact h)

section
variable {w : World} {O O' : Nat → Prop} {μ : Mu} {R : Rows}

theorem Rel0.nosl {p : PV} {v : Value} (h : Rel0 w O p v) (hp : p.nosl = true) : Rel0 w O' p v := by
  induction h with
  | any v h => exact .any v h
  | undef => exact .undef
  | int k n => exact .int k n
  | bool b => exact .bool b
  | str s => exact .str s
  | nl A => exact .nl A
  | sl0 sz A c => exact .sl0 sz A c
  | sl sz xs b o c V ho hx hc hz hs h1 h2 ih =>
    cases xs with
    | nil => exact absurd rfl hx
    | cons => simp [PV.nosl] at hp
  | ep cs b o V ho hx hs h1 h2 ih => simp [PV.nosl] at hp
  | nilp => exact .nilp
  | clo f caps vs hl h ih => exact .clo f caps vs hl fun j p v hj hv => ih j p v hj hv (PV.nosls_mem (by simpa [PV.nosl] using hp) p (List.mem_of_getElem? hj))
  | nilf => exact .nilf
  | agg cs vs hl hs h ih => exact .agg cs vs hl hs fun j p v hj hv => ih j p v hj hv (PV.nosls_mem (by simpa [PV.nosl] using hp) p (List.mem_of_getElem? hj))
  | tup cs vs hl h ih => exact .tup cs vs hl fun j p v hj hv => ih j p v hj hv (PV.nosls_mem (by simpa [PV.nosl] using hp) p (List.mem_of_getElem? hj))
  | nili => exact .nili
  | ifc t p v h ih => exact .ifc t p v (ih (by simpa [PV.nosl] using hp))

theorem Rel.nosl {p : PV} {v : Value} (h : Rel w O μ R p v) (hp : p.nosl = true) : Rel w O' μ R p v := by
  induction h with
  | base p v h => exact .base _ _ (h.nosl hp)
  | slr t lo n c row l hr hm hn hc hroom => exact .slr t lo n c row l hr hm hn hc hroom
  | slr0 t lo row A hr hn => exact .slr0 t lo row A hr hn
  | ptr t i off row l hr hm hi ho => exact .ptr t i off row l hr hm hi ho
  | clo g caps vs hl h ih => exact .clo g caps vs hl fun j p v hj hv => ih j p v hj hv (PV.nosls_mem (by simpa [PV.nosl] using hp) p (List.mem_of_getElem? hj))
  | agg cs vs hl hs h ih => exact .agg cs vs hl hs fun j p v hj hv => ih j p v hj hv (PV.nosls_mem (by simpa [PV.nosl] using hp) p (List.mem_of_getElem? hj))
  | tup cs vs hl h ih => exact .tup cs vs hl fun j p v hj hv => ih j p v hj hv (PV.nosls_mem (by simpa [PV.nosl] using hp) p (List.mem_of_getElem? hj))

theorem RowRel.nosl {t : Nat} {row : Row} (h : RowRel w O μ R t row) (hp : ∀ x ∈ row.cs, x.nosl = true) : RowRel w O' μ R t row := by
  refine ⟨h.sz, h.el, h.non, fun l hl => ?_⟩
  obtain ⟨arr, ety, fz, h1, h2, h3, h4, h5⟩ := h.lie l hl
  refine ⟨arr, ety, fz, h1, h2, h3, h4, fun i x j p hi hj => ?_⟩
  obtain ⟨v, hv, hc⟩ := h5 i x j p hi hj
  have hn := PV.nosl_cells (hp x (List.mem_of_getElem? hi)) p (List.mem_of_getElem? hj)
  refine ⟨v, hv, ?_⟩
  unfold CellRel at *
  split
  · rename_i hpr; rw [if_pos hpr] at hc; exact hc.nosl hn
  · rename_i hpr; rw [if_neg hpr] at hc; exact hc.nosl hn
end

/-- Rows that are handed over, lying in a world. -/
structure InRel (w : World) (O : Nat → Prop) (μ : Mu) (R : Rows) : Prop where
  row : ∀ t row, R t = some row → RowRel w (Av O μ R) μ R t row
  inj : ∀ t t' row row' l l', R t = some row → R t' = some row' → μ t = some l → μ t' = some l' → l.b = l'.b → t = t'
  own : ∀ t row l, R t = some row → μ t = some l → ¬ O l.b

/-- A function's contract: lent rows, arguments; result, rows behind the call. -/
def Sat (P : Program) (f : FuncId) (Ri : Rows) (ps : List PV) (res : PV) (Ro : Rows) : Prop :=
  ∀ (O : Nat → Prop) (μ : Mu) (w : World) (vs : List Value), (∀ b, O b → b < w.heap.size) → InRel w O μ Ri → CellsRel w (Av O μ Ri) μ Ri ps vs →
    Calls P f vs.toArray w fun e w' => ∃ v μ', e = .returned v ∧ Fr (Owned μ Ri) w w' ∧ InRel w' O μ' Ro ∧
      (∀ t row, Ri t = some row → μ' t = μ t ∧ ∃ row', Ro t = some row' ∧ row'.sz = row.sz ∧ row'.cs.length = row.cs.length) ∧
      (∀ t row l, Ro t = some row → Ri t = none → μ' t = some l → w.heap.size ≤ l.b) ∧ Rel w' (Av O μ' Ro) μ' Ro res v

def noRows : Rows := fun _ => none
def mrg (N R : Rows) : Rows := fun t => match N t with
  | some r => some r
  | none => R t

/-- An argument as the callee sees it: rows that aren't lent are read alone. -/
def bs (Ri R : Rows) : Nat → Nat → Nat → PV := fun t lo n => match Ri t with
  | some _ => .slr t lo n
  | none => match R t with
    | some row => bif row.pr then .sl row.sz ((row.cs.drop lo).take n) else .any
    | none => .any
def bp (Ri : Rows) : Nat → Nat → Nat → PV := fun t i o => match Ri t with
  | some _ => .ptr t i o
  | none => .any
def PV.bor (Ri R : Rows) (p : PV) : PV := p.map (bs Ri R) (bp Ri)

theorem bs_one (Ri R : Rows) (t lo n : Nat) : (bs Ri R t lo n).one = true := by
  unfold bs
  cases Ri t with
  | some => rfl
  | none => cases R t with
    | none => rfl
    | some row => cases h : row.pr <;> simp [PV.one, h]
theorem bp_one (Ri : Rows) (t lo n : Nat) : (bp Ri t lo n).one = true := by
  unfold bp
  cases Ri t <;> rfl

section
variable {w0 w : World} {O : Nat → Prop} {L : Lent} {n : Nat} {μ : Mu} {P : Program} {st : St} {a : Act}

/-- The state behind a call. -/
structure CallOk (st : St) (Ri Ro : Rows) : Prop where
  sub : ∀ t row, Ri t = some row → st.r t = some row ∧ row.tk (fun u => (Ri u).isSome) = true
  fresh : ∀ t row, Ro t = some row → Ri t = none → st.r t = none

/-- Arguments that borrow: then nothing that comes back may lead to them. -/
def Free (Ri : Rows) (ps : List PV) (res : PV) (Ro : Rows) : Prop :=
  (∀ p ∈ ps, p.tk (fun u => (Ri u).isSome) = true) ∨ (res.nosl = true ∧ ∀ t row, Ro t = some row → ∀ x ∈ row.cs, x.nosl = true)

theorem sub_slice {R : Rows} {O : Nat → Prop} {t lo n : Nat} {row : Row} {v : Value} (hR : RowsLie w O μ R) (hr : R t = some row) (hpr : row.pr = true) (h : Rel w O μ R (.slr t lo n) v) {O' : Nat → Prop} (hO : ∀ b, O' b → O b)
    (hown : ∀ l, μ t = some l → ¬ O' l.b) : Rel0 w O' (.sl row.sz ((row.cs.drop lo).take n)) v := by
  cases h with
  | base _ _ h => cases h
  | slr0 _ _ row' A hr' hn => rw [List.take_zero]; exact .sl0 _ _ _
  | slr _ _ _ c row' l hr' hm hn hc hroom =>
    rw [hr] at hr'
    cases hr'
    have hlen : ((row.cs.drop lo).take n).length = n := by simp; omega
    by_cases h0 : n = 0
    · subst h0; rw [List.take_zero]; exact .sl0 _ _ _
    · have hrr := hR t row hr
      have hlie := hrr.lie l hm
      have hex : ∃ V : Nat → Nat → Value, ∀ (i : Nat) (x : PV) (j : Nat) (p : PV), ((row.cs.drop lo).take n)[i]? = some x → x.cells[j]? = some p →
          w.cell? ⟨l.b, l.base + lo * row.sz + (i * row.sz + j), none⟩ = some (V i j) ∧ Rel0 w O p (V i j) := by
        refine ⟨fun i j => (w.cell? ⟨l.b, l.base + lo * row.sz + (i * row.sz + j), none⟩).getD Go.undef, fun i x j p hi hj => ?_⟩
        rw [List.getElem?_take] at hi
        split at hi
        · rw [List.getElem?_drop] at hi
          obtain ⟨u, hu, hcr⟩ := hlie.cell hi hj
          unfold CellRel at hcr
          rw [hpr, if_pos rfl] at hcr
          have he : l.base + ((lo + i) * row.sz + j) = l.base + lo * row.sz + (i * row.sz + j) := by rw [Nat.add_mul]; omega
          rw [he] at hu
          simp only [hu, Option.getD_some]
          exact ⟨trivial, hcr⟩
        · cases hi
      obtain ⟨V, hV⟩ := hex
      have := Rel0.sl (w := w) (O := O') row.sz ((row.cs.drop lo).take n) l.b (l.base + lo * row.sz) c V (hown l hm) (fun e => by rw [e] at hlen; simp at hlen; omega) (by omega) hrr.sz
        (fun x hx => hrr.el x (List.mem_of_mem_drop (List.mem_of_mem_take hx))) (fun i x j p hi hj => (hV i x j p hi hj).1) (fun i x j p hi hj => ((hV i x j p hi hj).2).frame (fun _ _ _ => rfl) (fun b _ hb => hO b hb))
      rw [hlen] at this
      exact this

/-- What is avoided in the callee's eyes. -/
def rest (O : Nat → Prop) (μ : Mu) (R Ri : Rows) (b : Nat) : Prop := O b ∨ ∃ t row l, R t = some row ∧ Ri t = none ∧ μ t = some l ∧ l.b = b

theorem call_goes {f : FuncId} {Ri Ro : Rows} {ps : List PV} {res : PV} {vs : List Value} (h : StRel w0 O L n μ st a w) (hok : CallOk st Ri Ro) (hfree : Free Ri ps res Ro)
    (hsat : Sat P f Ri (ps.map (PV.bor Ri st.r)) res Ro) (hv : CellsRel w (Av O μ st.r) μ st.r ps vs) (dst : Option Nat) (hd : ∀ d, dst = some d → d < n) {K : Act → World → Prop}
    (hK : ∀ μ' v w', StRel w0 O L n μ' (St.put ⟨st.s, mrg Ro st.r⟩ dst res) (a.put dst v) w' → K (a.put dst v) w') :
    Calls P f vs.toArray w fun e w' => ∃ v, e = .returned v ∧ K (a.put dst v) w' := by
  -- what the callee avoids
  have hRiR : ∀ b, Owned μ Ri b → Owned μ st.r b := by
    rintro b ⟨t, row, l, h1, h2, h3⟩
    exact ⟨t, row, l, (hok.sub t row h1).1, h2, h3⟩
  have hO0 : ∀ b, O b → b < w.heap.size := fun b hb => Nat.lt_of_lt_of_le (h.out b hb) h.fr.size
  have hrestlt : ∀ b, rest O μ st.r Ri b → b < w.heap.size := by
    rintro b (h1 | ⟨t, row, l, h1, _, h3, h4⟩)
    · exact hO0 b h1
    · rw [← h4]; exact h.block_lt h1 h3
  -- the callee's avoided set: all that isn't lent, or, where something is borrowed, what was avoided before
  have main : ∀ (Oc : Nat → Prop), (∀ b, Oc b → b < w.heap.size) → (∀ b, Oc b → rest O μ st.r Ri b) → (∀ p ∈ ps, p.tk (fun u => (Ri u).isSome) = true ∨ ∀ b, Oc b → O b) →
      (∀ (μ' : Mu) (w' : World) (v : Value), Fr (Owned μ Ri) w w' → InRel w' Oc μ' Ro → Rel w' (Av Oc μ' Ro) μ' Ro res v → (∀ b, b < w'.heap.size → ¬ Av Oc μ' Ro b → rest O μ st.r Ri b → False) ∨
        (res.nosl = true ∧ ∀ t row, Ro t = some row → ∀ x ∈ row.cs, x.nosl = true)) →
      Calls P f vs.toArray w fun e w' => ∃ v, e = .returned v ∧ K (a.put dst v) w' := by
    intro Oc hOc hsub hps hav
    have hInR : InRel w Oc μ Ri := by
      refine ⟨fun t row ht => ?_, fun t t' row row' l l' h1 h2 => h.inj t t' row row' l l' (hok.sub t row h1).1 (hok.sub t' row' h2).1, fun t row l h1 h2 hc => ?_⟩
      · obtain ⟨h1, h2⟩ := hok.sub t row ht
        refine (h.row t row h1).mono (fun u => (Ri u).isSome) (fun _ _ _ => rfl) (fun b _ hb => ?_) (fun u r hu hr => ?_) rfl (fun _ _ => rfl) h2
        · rcases hb with hb | hb
          · rcases hsub b hb with h3 | ⟨t', r', l', g1, _, g3, g4⟩
            · exact .inl h3
            · exact .inr ⟨t', r', l', g1, g3, g4⟩
          · exact .inr (hRiR b hb)
        · obtain ⟨r', hr'⟩ := Option.isSome_iff_exists.1 hu
          have := (hok.sub u r' hr').1
          rw [hr] at this
          cases this
          exact ⟨rfl, r, hr', rfl, Nat.le_refl _⟩
      · have hst := (hok.sub t row h1).1
        rcases hsub _ hc with h3 | ⟨t', r', l', g1, g2, g3, g4⟩
        · exact (h.own t row l hst h2).1 h3
        · have := h.inj t' t r' row l' l g1 hst g3 h2 g4
          rw [this, h1] at g2
          cases g2
    have hargs : CellsRel w (Av Oc μ Ri) μ Ri (ps.map (PV.bor Ri st.r)) vs := by
      refine ⟨by simpa using hv.len, fun j q u hj hu => ?_⟩
      rw [List.getElem?_map] at hj
      obtain ⟨p, hp, rfl⟩ := Option.map_eq_some_iff.1 hj
      have hrel := hv.rel j p u hp hu
      have hO1 : ∀ b, b < w.heap.size → Av Oc μ Ri b → Av O μ st.r b := by
        rintro b _ (hb | hb)
        · rcases hsub b hb with h3 | ⟨t', r', l', g1, _, g3, g4⟩
          · exact .inl h3
          · exact .inr ⟨t', r', l', g1, g3, g4⟩
        · exact .inr (hRiR b hb)
      -- where nothing is borrowed the value is as it was; else what is read alone is avoided by nobody
      rcases hps p (List.mem_of_getElem? hp) with hfr | hfr
      · have h1 : Rel w (Av Oc μ Ri) μ Ri p u := hrel.mono (fun t => (Ri t).isSome) (fun _ _ _ => rfl) hO1 (fun t r ht hr => by
          obtain ⟨r', hr'⟩ := Option.isSome_iff_exists.1 ht
          have := (hok.sub t r' hr').1
          rw [hr] at this
          cases this
          exact ⟨rfl, r, hr', rfl, Nat.le_refl _⟩) hfr
        -- mapping changes nothing
        refine Rel.map (fs := bs Ri st.r) (fp := bp Ri) (fun _ _ _ => rfl) (fun _ _ h => h) (bs_one _ _) (bp_one _) (fun t lo m v hv => ?_) (fun t i o v hv => ?_) h1
        · unfold bs
          cases hv with
          | base _ _ h => cases h
          | slr _ _ _ c row l hr hm hn hc hroom => simp only [hr]; exact .slr t lo m c row l hr hm hn hc hroom
          | slr0 _ _ row A hr hn => simp only [hr]; exact .slr0 t lo row A hr hn
        · unfold bp
          cases hv with
          | base _ _ h => cases h
          | ptr _ _ _ row l hr hm hi ho => simp only [hr]; exact .ptr t i o row l hr hm hi ho
      · refine Rel.map (fs := bs Ri st.r) (fp := bp Ri) (fun _ _ _ => rfl) hO1 (bs_one _ _) (bp_one _) (fun t lo m v hv => ?_) (fun t i o v hv => ?_) hrel
        · unfold bs
          cases hRi : Ri t with
          | some r =>
            simp only
            have hst := (hok.sub t r hRi).1
            cases hv with
            | base _ _ h => cases h
            | slr _ _ _ c row l hr hm hn hc hroom => rw [hst] at hr; cases hr; exact .slr t lo m c r l hRi hm hn hc hroom
            | slr0 _ _ row A hr hn => rw [hst] at hr; cases hr; exact .slr0 t lo r A hRi hn
          | none =>
            simp only
            have hany : v.oneCell' = true := hv.oneCell rfl
            cases hr : st.r t with
            | none => exact .base _ _ (.any v hany)
            | some row =>
              simp only
              cases hpr : row.pr with
              | false => exact .base _ _ (.any v hany)
              | true =>
                refine .base _ _ (sub_slice h.rows hr hpr hv (fun b hb => hO1 b ?_ hb) fun l hl hb => ?_)
                · rcases hb with hb | ⟨t', r', l', g1, g2, g3⟩
                  · exact hOc b hb
                  · rw [← g3]; exact h.block_lt (hok.sub t' r' g1).1 g2
                · rcases hb with hb | ⟨t', r', l', g1, g2, g3⟩
                  · exact (h.own t row l hr hl).1 (hfr _ hb)
                  · have := h.inj t' t r' row l' l (hok.sub t' r' g1).1 hr g2 hl g3
                    rw [this, hRi] at g1
                    cases g1
        · unfold bp
          cases hRi : Ri t with
          | some r =>
            simp only
            have hst := (hok.sub t r hRi).1
            cases hv with
            | base _ _ h => cases h
            | ptr _ _ _ row l hr hm hi ho => rw [hst] at hr; cases hr; exact .ptr t i o r l hRi hm hi ho
          | none => exact .base _ _ (.any v (hv.oneCell rfl))
    refine (hsat Oc μ w vs hOc hInR hargs).mono ?_
    rintro e w' ⟨v, μ', rfl, hfr, hro, hkeep, hnew, hres⟩
    refine ⟨v, rfl, hK (fun t => match Ro t with | some _ => μ' t | none => μ t) v w' ?_⟩
    -- the state behind the call
    have hm1 : ∀ t r, Ro t = some r → (fun t => match Ro t with | some _ => μ' t | none => μ t) t = μ' t := fun t r hr => by simp only [hr]
    have hm2 : ∀ t, Ro t = none → (fun t => match Ro t with | some _ => μ' t | none => μ t) t = μ t := fun t hr => by simp only [hr]
    have hg1 : ∀ t r, Ro t = some r → mrg Ro st.r t = some r := fun t r hr => by simp [mrg, hr]
    have hg2 : ∀ t, Ro t = none → mrg Ro st.r t = st.r t := fun t hr => by simp [mrg, hr]
    generalize hμ : (fun t => match Ro t with | some _ => μ' t | none => μ t) = ν at hm1 hm2
    have hnoRo : ∀ t, Ro t = none → Ri t = none := by
      intro t ht
      cases hr : Ri t with
      | none => rfl
      | some r =>
        obtain ⟨_, r', hr', _⟩ := hkeep t r hr
        rw [ht] at hr'
        cases hr'
    have hOut : ∀ b, b < w.heap.size → Av O ν (mrg Ro st.r) b → Av O μ st.r b := by
      rintro b hb (h1 | ⟨t, r, l, h1, h2, h3⟩)
      · exact .inl h1
      · cases hr : Ro t with
        | none =>
          rw [hg2 t hr] at h1
          rw [hm2 t hr] at h2
          exact .inr ⟨t, r, l, h1, h2, h3⟩
        | some r' =>
          rw [hm1 t r' hr] at h2
          cases hri : Ri t with
          | none => have := hnew t r' l hr hri h2; omega
          | some r'' => exact .inr ⟨t, r'', l, (hok.sub t r'' hri).1, by rw [← (hkeep t r'' hri).1]; exact h2, h3⟩
    have hw : ∀ b, b < w.heap.size → ¬ Av O μ st.r b → w'.heap[b]? = w.heap[b]? := fun b hb hn => hfr.block b hb fun hc => hn (.inr (hRiR b hc))
    have henv : ∀ t r, true = true → st.r t = some r → ν t = μ t ∧ ∃ r', mrg Ro st.r t = some r' ∧ r'.sz = r.sz ∧ r.cs.length ≤ r'.cs.length := by
      intro t r _ hr
      cases hro' : Ro t with
      | none => exact ⟨hm2 t hro', r, by rw [hg2 t hro']; exact hr, rfl, Nat.le_refl _⟩
      | some r' =>
        cases hri : Ri t with
        | none => have := hok.fresh t r' hro' hri; rw [hr] at this; cases this
        | some r'' =>
          obtain ⟨e1, r3, e2, e3, e4⟩ := hkeep t r'' hri
          have := (hok.sub t r'' hri).1
          rw [hr] at this
          cases this
          exact ⟨by rw [hm1 t r' hro', e1], r3, hg1 t r3 e2, e3, by omega⟩
    -- what came back, among all rows
    have hRoAv : ∀ b, b < w'.heap.size → Av O ν (mrg Ro st.r) b → Av Oc μ' Ro b ∨ rest O μ st.r Ri b := by
      rintro b hb (h1 | ⟨t, r, l, h1, h2, h3⟩)
      · exact .inr (.inl h1)
      · cases hr : Ro t with
        | none =>
          rw [hg2 t hr] at h1
          rw [hm2 t hr] at h2
          exact .inr (.inr ⟨t, r, l, h1, hnoRo t hr, h2, h3⟩)
        | some r' =>
          rw [hm1 t r' hr] at h2
          exact .inl (.inr ⟨t, r', l, hr, h2, h3⟩)
    have hback : ∀ {p : PV} {v : Value}, Rel w' (Av Oc μ' Ro) μ' Ro p v → ((∀ b, b < w'.heap.size → ¬ Av Oc μ' Ro b → rest O μ st.r Ri b → False) ∨ p.nosl = true) → Rel w' (Av O ν (mrg Ro st.r)) ν (mrg Ro st.r) p v := by
      intro p v hrel hc
      have env2 : ∀ t r, true = true → Ro t = some r → ν t = μ' t ∧ ∃ r', mrg Ro st.r t = some r' ∧ r'.sz = r.sz ∧ r.cs.length ≤ r'.cs.length := fun t r _ hr => ⟨hm1 t r hr, r, hg1 t r hr, rfl, Nat.le_refl _⟩
      rcases hc with hc | hc
      · refine hrel.mono (fun _ => true) (fun _ _ _ => rfl) (fun b hb hav' => ?_) env2 (PV.tk_true _)
        rcases hRoAv b hb hav' with h1 | h1
        · exact h1
        · rcases Classical.em (Av Oc μ' Ro b) with h2 | h2
          · exact h2
          · exact (hc b hb h2 h1).elim
      · exact ((hrel.mono (fun _ => true) (fun _ _ _ => rfl) (fun _ _ h => h) env2 (PV.tk_true _)).nosl hc)
    have hcase := hav μ' w' v hfr hro hres
    have hst : StRel w0 O L n ν ⟨st.s, mrg Ro st.r⟩ a w' := by
      refine ⟨h.dfr, h.size, h.fr.trans hfr (fun x hx hc => ?_), h.out, fun k q hk => ?_, fun t r hr => ?_, ?_, ?_, fun t hT => ?_⟩
      · obtain ⟨t, r, l, h1, h2, h3⟩ := hRiR x hc
        rcases (h.own t r l h1 h2).2 with h4 | h4
        · omega
        · rw [← h3]; exact h4
      · obtain ⟨u, hu, hrel⟩ := h.slot k q hk
        exact ⟨u, hu, hrel.mono (fun _ => true) hw hOut henv (PV.tk_true _)⟩
      · cases hro' : Ro t with
        | none =>
          have hr' : st.r t = some r := by rw [← hg2 t hro']; exact hr
          refine (h.row t r hr').mono (fun _ => true) hw hOut henv (hm2 t hro') (fun l hl => hfr.block _ (h.block_lt hr' hl) ?_) (Row.tk_true _)
          rintro ⟨t', r', l', g1, g2, g3⟩
          have := h.inj t' t r' r l' l (hok.sub t' r' g1).1 hr' g2 hl g3
          rw [this, hnoRo t hro'] at g1
          cases g1
        | some r' =>
          have : r' = r := by
            have h1 := hg1 t r' hro'
            have hr2 : mrg Ro st.r t = some r := hr
            rw [h1] at hr2
            exact Option.some.inj hr2
          subst this
          have hrr := hro.row t r' hro'
          refine ⟨hrr.sz, hrr.el, fun hn => hrr.non (by rw [hm1 t r' hro'] at hn; exact hn), fun l hl => ?_⟩
          rw [hm1 t r' hro'] at hl
          obtain ⟨arr, ety, fz, g1, g2, g3, g4, g5⟩ := hrr.lie l hl
          refine ⟨arr, ety, fz, g1, g2, g3, g4, fun i x j p hi hj => ?_⟩
          obtain ⟨u, hu, hc⟩ := g5 i x j p hi hj
          refine ⟨u, hu, ?_⟩
          have hcond : (∀ b, b < w'.heap.size → ¬ Av Oc μ' Ro b → rest O μ st.r Ri b → False) ∨ p.nosl = true := hcase.imp id fun hc => PV.nosl_cells (hc.2 t r' hro' x (List.mem_of_getElem? hi)) p (List.mem_of_getElem? hj)
          unfold CellRel at hc ⊢
          split
          · rename_i hpr
            rw [if_pos hpr] at hc
            rcases hcond with h1 | h1
            · refine hc.frame (fun _ _ _ => rfl) (fun b hb hav' => ?_)
              rcases hRoAv b hb hav' with h2 | h2
              · exact h2
              · rcases Classical.em (Av Oc μ' Ro b) with h3 | h3
                · exact h3
                · exact (h1 b hb h3 h2).elim
            · exact hc.nosl h1
          · rename_i hpr
            rw [if_neg hpr] at hc
            exact hback hc hcond
      · intro t t' r r' l l' h1 h2 h3 h4 h5
        have key : ∀ t r l, mrg Ro st.r t = some r → ν t = some l → (Ro t = none ∧ st.r t = some r ∧ μ t = some l) ∨ (∃ r', Ro t = some r' ∧ μ' t = some l ∧ (w.heap.size ≤ l.b ∨ ∃ r'', st.r t = some r'' ∧ μ t = some l)) := by
          intro t r l h1 h2
          cases hr : Ro t with
          | none => exact .inl ⟨rfl, by rw [← hg2 t hr]; exact h1, by rw [← hm2 t hr]; exact h2⟩
          | some r' =>
            rw [hm1 t r' hr] at h2
            cases hri : Ri t with
            | none => exact .inr ⟨r', rfl, h2, .inl (hnew t r' l hr hri h2)⟩
            | some r'' => exact .inr ⟨r', rfl, h2, .inr ⟨r'', (hok.sub t r'' hri).1, by rw [← (hkeep t r'' hri).1]; exact h2⟩⟩
        rcases key t r l h1 h3 with ⟨e1, e2, e3⟩ | ⟨s, e1, e2, e3⟩
        · rcases key t' r' l' h2 h4 with ⟨f1, f2, f3⟩ | ⟨s', f1, f2, f3⟩
          · exact h.inj t t' r r' l l' e2 f2 e3 f3 h5
          · rcases f3 with f3 | ⟨r2, f3, f4⟩
            · have := h.block_lt e2 e3; omega
            · exact h.inj t t' r r2 l l' e2 f3 e3 f4 h5
        · rcases key t' r' l' h2 h4 with ⟨f1, f2, f3⟩ | ⟨s', f1, f2, f3⟩
          · rcases e3 with e3 | ⟨r2, e3, e4⟩
            · have := h.block_lt f2 f3; omega
            · exact h.inj t t' r2 r' l l' e3 f2 e4 f3 h5
          · exact hro.inj t t' s s' l l' e1 f1 e2 f2 h5
      · intro t r l h1 h2
        cases hr : Ro t with
        | none =>
          exact h.own t r l (by rw [← hg2 t hr]; exact h1) (by rw [← hm2 t hr]; exact h2)
        | some r' =>
          rw [hm1 t r' hr] at h2
          cases hri : Ri t with
          | none =>
            have := hnew t r' l hr hri h2
            have h5 := h.fr.size
            exact ⟨fun hc => by have := h.out _ hc; omega, .inl (by omega)⟩
          | some r'' => exact h.own t r'' l (hok.sub t r'' hri).1 (by rw [← (hkeep t r'' hri).1]; exact h2)
      · obtain ⟨g1, r, g2⟩ := h.keep t hT
        cases hr : Ro t with
        | none => exact ⟨(hm2 t hr).trans g1, r, (hg2 t hr).trans g2⟩
        | some r' =>
          refine ⟨?_, r', hg1 t r' hr⟩
          cases hri : Ri t with
          | none => have := hok.fresh t r' hr hri; rw [g2] at this; cases this
          | some r'' => rw [hm1 t r' hr, (hkeep t r'' hri).1]; exact g1
    have hr2 := hback hres (hcase.imp id fun hc => hc.1)
    exact hst.put dst hd hr2
  rcases hfree with hfree | hfree
  · refine main (rest O μ st.r Ri) hrestlt (fun _ h => h) (fun p hp => .inl (hfree p hp)) (fun μ' w' v _ _ _ => .inl fun b _ h1 h2 => h1 (.inl h2))
  · exact main O hO0 (fun b hb => .inl hb) (fun p hp => .inr fun b hb => hb) (fun μ' w' v _ _ _ => .inr hfree)

end
end Go.Vd
