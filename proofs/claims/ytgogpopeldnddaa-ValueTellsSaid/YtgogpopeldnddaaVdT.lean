/- Operations that make at most new rows lean on what they read alone. -/
import Derived.Test.YtgogpopeldnddaaVdS
set_option linter.unusedVariables false
set_option linter.unusedSimpArgs false
namespace Go.Vd
open Go.RowKit

def IOp.opds : IOp → List Opd
  | .mov x => [x]
  | .pick c a b => [c, a, b]
  | .bin _ x y => [x, y]
  | .beq _ x y => [x, y]
  | .eqs _ _ x y => [x, y]
  | .eqn _ x y => [x, y]
  | .un _ x => [x]
  | .cvi _ x => [x]
  | .cvt x => [x]
  | .cvb x => [x]
  | .build _ ps => ps.map (·.2.2)
  | .fld _ _ _ x => [x]
  | .idxs x i => [x, i]
  | .idxa _ _ _ x i => [x, i]
  | .slcs x lo hi => x :: (lo.toList ++ hi.toList)
  | .slcl _ x lo hi => x :: (lo.toList ++ hi.toList)
  | .ext _ x => [x]
  | .len _ x => [x]
  | .mkf _ caps => caps
  | .mki _ x => [x]
  | .mm _ x xs => x :: xs
  | .nck x => [x]
  | .fda _ x => [x]
  | .ixp _ x i => [x, i]
  | .ixq _ _ x i => [x, i]
  | .load _ _ x => [x]
  | .box x => [x]
  | .bsl _ xs => xs
  | .cvs x => [x]
  | .mks _ _ _ x => [x]
  | .store _ a x => [a, x]
  | .app _ _ x y => [x, y]
  | .aps x y => [x, y]
  | .call _ xs => xs
  | .calv f xs => f :: xs

section
variable {s s' : Slots} {R R' : Rows} {f : Nat → Bool}

theorem evs_congr : ∀ {l : List Opd}, (∀ x ∈ l, x.ev s' = x.ev s) → evs s' l = evs s l
  | [], _ => rfl
  | x :: r, h => by simp only [evs, h x (by simp), evs_congr (l := r) fun y hy => h y (by simp [hy])]
theorem evO_congr {x : Option Opd} (h : ∀ y ∈ x.toList, y.ev s' = y.ev s) : evO s' x = evO s x := by
  cases x with
  | none => rfl
  | some y => simp only [evO, h y (by simp)]
theorem lay_congr : ∀ {l : List (Nat × Nat × Opd)} {z : List PV}, (∀ x ∈ l, x.2.2.ev s' = x.2.2.ev s) → lay z l s' = lay z l s
  | [], _, _ => rfl
  | (off, sz, x) :: r, z, h => by
    simp only [lay, h (off, sz, x) (by simp)]
    cases x.ev s with
    | none => rfl
    | some p =>
      simp only
      split
      · exact lay_congr fun y hy => h y (by simp [hy])
      · rfl

theorem cvbv_congr {p : PV} (hp : p.tk f = true) (hR : ∀ t, f t = true → R' t = R t) : cvbv R' p = cvbv R p := by
  cases p <;> simp only [cvbv]
  case slr t lo n => rw [hR t hp]
theorem slclv_congr {sz : Nat} {lo hi : Option PV} {p : PV} (hp : p.tk f = true) (hR : ∀ t, f t = true → R' t = R t) : slclv R' sz lo hi p = slclv R sz lo hi p := by
  cases p <;> simp only [slclv]
  case slr t o n => rw [hR t hp]
theorem fdav_congr {off : Nat} {p : PV} (hp : p.tk f = true) (hR : ∀ t, f t = true → R' t = R t) : fdav R' off p = fdav R off p := by
  cases p <;> simp only [fdav]
  case ptr t i o => rw [hR t hp]
theorem ixpv_congr {sz : Nat} {p q : PV} (hp : p.tk f = true) (hR : ∀ t, f t = true → R' t = R t) : ixpv R' sz p q = ixpv R sz p q := by
  cases p <;> cases q <;> simp only [ixpv]
  case slr.int t lo n k i => rw [hR t hp]
theorem ixqv_congr {n sz : Nat} {p q : PV} (hp : p.tk f = true) (hR : ∀ t, f t = true → R' t = R t) : ixqv R' n sz p q = ixqv R n sz p q := by
  cases p <;> cases q <;> simp only [ixqv]
  case ptr.int t i o k j => rw [hR t hp]
theorem loadv_congr {sz : Nat} {ag : Bool} {p : PV} (hp : p.tk f = true) (hR : ∀ t, f t = true → R' t = R t) : loadv R' sz ag p = loadv R sz ag p := by
  cases p <;> simp only [loadv]
  case ptr t i o => rw [hR t hp]

theorem pop_congr {io : IOp} (h : ∀ x ∈ io.opds, x.ev s' = x.ev s) (hf : ∀ x ∈ io.opds, ∀ q, x.ev s = some q → q.tk f = true) (hR : ∀ t, f t = true → R' t = R t) : pop s' R' io = pop s R io := by
  have one : ∀ {g g' : PV → Option PV} (x : Opd), x.ev s' = x.ev s → (∀ q, x.ev s = some q → q.tk f = true) → (∀ q, q.tk f = true → g' q = g q) → (x.ev s').bind g' = (x.ev s).bind g := by
    intro g g' x h1 h2 h3
    rw [h1]
    cases hx : x.ev s with
    | none => rfl
    | some q => exact h3 q (h2 q hx)
  have two : ∀ {g g' : PV → PV → Option PV} (x y : Opd), x.ev s' = x.ev s → y.ev s' = y.ev s → (∀ q, x.ev s = some q → q.tk f = true) → (∀ q r, q.tk f = true → g' q r = g q r) → opt2 g' (x.ev s') (y.ev s') = opt2 g (x.ev s) (y.ev s) := by
    intro g g' x y h1 h2 h3 h4
    rw [h1, h2]
    cases hx : x.ev s with
    | none => rfl
    | some q => cases hy : y.ev s with
      | none => rfl
      | some r => exact h4 q r (h3 q hx)
  cases io <;> simp only [IOp.opds] at h hf <;> simp only [pop]
  case mov x => exact h x (by simp)
  case pick c a b => rw [h c (by simp), h a (by simp), h b (by simp)]
  case bin op x y => rw [h x (by simp), h y (by simp)]
  case beq ne x y => rw [h x (by simp), h y (by simp)]
  case eqs ne ks x y => rw [h x (by simp), h y (by simp)]
  case eqn ne x y => rw [h x (by simp), h y (by simp)]
  case un op x => rw [h x (by simp)]
  case cvi k x => rw [h x (by simp)]
  case cvt x => rw [h x (by simp)]
  case cvb x => exact one x (h x (by simp)) (hf x (by simp)) fun q hq => cvbv_congr hq hR
  case build z ps => rw [lay_congr fun x hx => h x.2.2 (List.mem_map.2 ⟨x, hx, rfl⟩)]
  case fld off sz ag x => rw [h x (by simp)]
  case idxs x i => rw [h x (by simp), h i (by simp)]
  case idxa n sz ag x i => rw [h x (by simp), h i (by simp)]
  case slcs x lo hi => rw [evO_congr fun y hy => h y (by simp [hy]), evO_congr fun y hy => h y (by simp [hy]), h x (by simp)]
  case slcl sz x lo hi =>
    rw [evO_congr fun y hy => h y (by simp [hy]), evO_congr fun y hy => h y (by simp [hy])]
    cases evO s lo with
    | none => rfl
    | some l => cases evO s hi with
      | none => rfl
      | some m => exact one x (h x (by simp)) (hf x (by simp)) fun q hq => slclv_congr hq hR
  case ext i x => rw [h x (by simp)]
  case len st x => rw [h x (by simp)]
  case mkf g caps => rw [evs_congr h]
  case mki t x => rw [h x (by simp)]
  case mm mx x xs => rw [h x (by simp), evs_congr fun y hy => h y (by simp [hy])]
  case nck x => rw [h x (by simp)]
  case fda off x => exact one x (h x (by simp)) (hf x (by simp)) fun q hq => fdav_congr hq hR
  case ixp sz x i => exact two x i (h x (by simp)) (h i (by simp)) (hf x (by simp)) fun q r hq => ixpv_congr hq hR
  case ixq n sz x i => exact two x i (h x (by simp)) (h i (by simp)) (hf x (by simp)) fun q r hq => ixqv_congr hq hR
  case load sz ag x => exact one x (h x (by simp)) (hf x (by simp)) fun q hq => loadv_congr hq hR


theorem PV.tks_of {f : Nat → Bool} : ∀ {l : List PV}, (∀ p ∈ l, p.tk f = true) → PV.tks f l = true
  | [], _ => rfl
  | p :: r, h => by rw [PV.tks, h p (by simp), PV.tks_of fun q hq => h q (by simp [hq])]; rfl

theorem evs_tk : ∀ {l : List Opd} {ps : List PV}, evs s l = some ps → (∀ x ∈ l, ∀ q, x.ev s = some q → q.tk f = true) → ∀ p ∈ ps, p.tk f = true
  | [], ps, h, _ => by simp only [evs, Option.some.injEq] at h; subst h; intro p hp; cases hp
  | x :: r, ps, h, hf => by
    simp only [evs] at h
    cases hx : x.ev s with
    | none => simp [hx] at h
    | some p =>
      cases hr : evs s r with
      | none => simp [hx, hr] at h
      | some q =>
        simp only [hx, hr, Option.some.injEq] at h
        subst h
        intro y hy
        rcases List.mem_cons.1 hy with e | e
        · rw [e]; exact hf x (by simp) p hx
        · exact evs_tk hr (fun z hz => hf z (by simp [hz])) y e

theorem PV.tk_mono {f g k : Nat → Bool} {p : PV} (hf : p.tk f = true) (hg : p.tk g = true) (h : ∀ t, f t = true → g t = true → k t = true) : p.tk k = true := by
  revert hf hg
  refine PV.rec (motive_1 := fun p => p.tk f = true → p.tk g = true → p.tk k = true) (motive_2 := fun l => PV.tks f l = true → PV.tks g l = true → PV.tks k l = true) ?_ ?_ ?_ ?_ ?_ ?_ ?_ ?_ ?_ ?_ ?_ ?_ ?_ ?_ ?_ ?_ ?_ ?_ ?_ p <;> intros <;> simp_all [PV.tk, PV.tks]

/-! rows may grow -/
theorem cvbv_mono {p q : PV} (h : cvbv R p = some q) (hR : ∀ t row, R t = some row → R' t = some row) : cvbv R' p = some q := by
  cases p <;> simp only [cvbv] at h ⊢ <;> try exact h
  case slr t lo n =>
    cases hr : R t with
    | none => simp [hr] at h
    | some row => rw [hr] at h; rw [hR t row hr]; exact h
theorem slclv_mono {sz : Nat} {lo hi : Option PV} {p q : PV} (h : slclv R sz lo hi p = some q) (hR : ∀ t row, R t = some row → R' t = some row) : slclv R' sz lo hi p = some q := by
  cases p <;> simp only [slclv] at h ⊢ <;> try exact h
  case slr t lo n =>
    cases hr : R t with
    | none => simp [hr] at h
    | some row => rw [hr] at h; rw [hR t row hr]; exact h
theorem fdav_mono {off : Nat} {p q : PV} (h : fdav R off p = some q) (hR : ∀ t row, R t = some row → R' t = some row) : fdav R' off p = some q := by
  cases p <;> simp only [fdav] at h ⊢ <;> try exact h
  case ptr t lo n =>
    cases hr : R t with
    | none => simp [hr] at h
    | some row => rw [hr] at h; rw [hR t row hr]; exact h
theorem ixpv_mono {sz : Nat} {p p' q : PV} (h : ixpv R sz p p' = some q) (hR : ∀ t row, R t = some row → R' t = some row) : ixpv R' sz p p' = some q := by
  cases p <;> cases p' <;> simp only [ixpv] at h ⊢ <;> try exact h
  case slr.int t lo n _ _ =>
    cases hr : R t with
    | none => simp [hr] at h
    | some row => rw [hr] at h; rw [hR t row hr]; exact h
theorem ixqv_mono {n sz : Nat} {p p' q : PV} (h : ixqv R n sz p p' = some q) (hR : ∀ t row, R t = some row → R' t = some row) : ixqv R' n sz p p' = some q := by
  cases p <;> cases p' <;> simp only [ixqv] at h ⊢ <;> try exact h
  case ptr.int t lo n _ _ =>
    cases hr : R t with
    | none => simp [hr] at h
    | some row => rw [hr] at h; rw [hR t row hr]; exact h
theorem loadv_mono {sz : Nat} {ag : Bool} {p q : PV} (h : loadv R sz ag p = some q) (hR : ∀ t row, R t = some row → R' t = some row) : loadv R' sz ag p = some q := by
  cases p <;> simp only [loadv] at h ⊢ <;> try exact h
  case ptr t lo n =>
    cases hr : R t with
    | none => simp [hr] at h
    | some row => rw [hr] at h; rw [hR t row hr]; exact h

theorem pop_grow {io : IOp} {p : PV} (h : pop s R io = some p) (hR : ∀ t row, R t = some row → R' t = some row) : pop s R' io = some p := by
  have one : ∀ {g g' : PV → Option PV} {x : Option PV} {p : PV}, x.bind g = some p → (∀ q, g q = some p → g' q = some p) → x.bind g' = some p := by
    intro g g' x p h1 h2
    obtain ⟨q, rfl, h3⟩ := Option.bind_eq_some_iff.1 h1
    exact h2 q h3
  have two : ∀ {g g' : PV → PV → Option PV} {x y : Option PV} {p : PV}, opt2 g x y = some p → (∀ q r, g q r = some p → g' q r = some p) → opt2 g' x y = some p := by
    intro g g' x y p h1 h2
    obtain ⟨q, r, rfl, rfl, h3⟩ := opt2_inv h1
    exact h2 q r h3
  cases io <;> simp only [pop] at h ⊢ <;> try exact h
  case cvb x => exact one h fun q hq => cvbv_mono hq hR
  case slcl sz x lo hi =>
    cases h1 : evO s lo with
    | none => simp [h1] at h
    | some l => cases h2 : evO s hi with
      | none => simp [h1, h2] at h
      | some m => simp only [h1, h2] at h ⊢; exact one h fun q hq => slclv_mono hq hR
  case fda off x => exact one h fun q hq => fdav_mono hq hR
  case ixp sz x i => exact two h fun q r hq => ixpv_mono hq hR
  case ixq n sz x i => exact two h fun q r hq => ixqv_mono hq hR
  case load sz ag x => exact one h fun q hq => loadv_mono hq hR

theorem PV.map_congr {f : Nat → Bool} {fs fp gs gp : Nat → Nat → Nat → PV} (hs : ∀ t lo n, f t = true → fs t lo n = gs t lo n) (hp : ∀ t i o, f t = true → fp t i o = gp t i o) : ∀ p : PV, p.tk f = true → p.map fs fp = p.map gs gp := by
  intro p
  refine PV.rec (motive_1 := fun p => p.tk f = true → p.map fs fp = p.map gs gp) (motive_2 := fun l => PV.tks f l = true → PV.maps fs fp l = PV.maps gs gp l) ?_ ?_ ?_ ?_ ?_ ?_ ?_ ?_ ?_ ?_ ?_ ?_ ?_ ?_ ?_ ?_ ?_ ?_ ?_ p <;> intros <;> simp_all [PV.tk, PV.tks, PV.map, PV.maps]

/-- What borrows: the rows that it names are known. -/
theorem bor_congr {R R' : Rows} {f : Nat → Bool} {p : PV} (hp : p.tk f = true) (hR : ∀ t, f t = true → R' t = R t) : p.bor noRows R' = p.bor noRows R := by
  refine PV.map_congr (f := f) (fun t lo n ht => ?_) (fun t i o ht => rfl) p hp
  simp only [bs, noRows, hR t ht]

theorem PurS.congr {P : Program} {io : IOp} {p : PV} {N : Rows} (h : PurS P io s R p N) (hs : ∀ x ∈ io.opds, x.ev s' = x.ev s) (hf : ∀ x ∈ io.opds, ∀ q, x.ev s = some q → q.tk f = true) (hR : ∀ t, f t = true → R' t = R t) : PurS P io s' R' p N := by
  cases h with
  | pop h => exact .pop ((pop_congr hs hf hR).trans h)
  | box p t hp hpos hone => exact .box p t ((hs _ (by simp [IOp.opds])).trans hp) hpos hone
  | bsl ps t hp hel => exact .bsl ps t ((evs_congr hs).trans hp) hel
  | cvs b t hp => exact .cvs b t ((hs _ (by simp [IOp.opds])).trans hp)
  | mks k m t hp hb hm hz => exact .mks k m t ((hs _ (by simp [IOp.opds])).trans hp) hb hm hz
  | call ps _ _ hp hfr hsat ht hn htk =>
    have htk' := evs_tk hp hf
    have hm : ps.map (PV.bor noRows R') = ps.map (PV.bor noRows R) := List.map_congr_left fun q hq => bor_congr (htk' q hq) hR
    exact .call ps p N ((evs_congr hs).trans hp) hfr (hm ▸ hsat) ht hn (fun q hq => PV.tk_mono (htk q hq) (htk' q hq) fun t h1 h2 => by rw [hR t h2]; exact h1)
  | calv g caps ps _ _ hg hok hp hfr hsat ht hn htk =>
    have htk0 := evs_tk hp (fun x hx => hf x (by simp only [IOp.opds]; exact List.mem_cons_of_mem _ hx))
    have hcl := hf _ (by simp only [IOp.opds]; exact List.mem_cons_self) _ hg
    have htk' : ∀ q ∈ ps ++ caps, q.tk f = true := fun q hq => by
      rcases List.mem_append.1 hq with hq | hq
      · exact htk0 q hq
      · exact PV.tks_mem (by simpa [PV.tk] using hcl) q hq
    have hm : (ps ++ caps).map (PV.bor noRows R') = (ps ++ caps).map (PV.bor noRows R) := List.map_congr_left fun q hq => bor_congr (htk' q hq) hR
    exact .calv g caps ps p N ((hs _ (by simp [IOp.opds])).trans hg) hok ((evs_congr fun x hx => hs x (by simp only [IOp.opds]; exact List.mem_cons_of_mem _ hx)).trans hp) hfr (hm ▸ hsat) ht hn
      (fun q hq => PV.tk_mono (htk q hq) (htk' q hq) fun t h1 h2 => by rw [hR t h2]; exact h1)

theorem PurS.grow {P : Program} {io : IOp} {p : PV} {N : Rows} (h : PurS P io s R p N) (hs : ∀ x ∈ io.opds, x.ev s' = x.ev s) (hR : ∀ t row, R t = some row → R' t = some row) : PurS P io s' R' p N := by
  have hR2 : ∀ t, (R t).isSome = true → R' t = R t := fun t ht => by
    obtain ⟨r, hr⟩ := Option.isSome_iff_exists.1 ht
    rw [hr, hR t r hr]
  cases h with
  | pop h => exact .pop (pop_grow ((pop_congr (f := fun _ => true) hs (fun _ _ q _ => PV.tk_true q) fun _ _ => rfl).trans h) hR)
  | box p t hp hpos hone => exact .box p t ((hs _ (by simp [IOp.opds])).trans hp) hpos hone
  | bsl ps t hp hel => exact .bsl ps t ((evs_congr hs).trans hp) hel
  | cvs b t hp => exact .cvs b t ((hs _ (by simp [IOp.opds])).trans hp)
  | mks k m t hp hb hm hz => exact .mks k m t ((hs _ (by simp [IOp.opds])).trans hp) hb hm hz
  | call ps _ _ hp hfr hsat ht hn htk =>
    have hm : ps.map (PV.bor noRows R') = ps.map (PV.bor noRows R) := List.map_congr_left fun q hq => bor_congr (htk q hq) hR2
    exact .call ps p N ((evs_congr hs).trans hp) hfr (hm ▸ hsat) ht hn (fun q hq => PV.tk_mono (htk q hq) (htk q hq) fun t h1 _ => by rw [hR2 t h1]; exact h1)
  | calv g caps ps _ _ hg hok hp hfr hsat ht hn htk =>
    have hm : (ps ++ caps).map (PV.bor noRows R') = (ps ++ caps).map (PV.bor noRows R) := List.map_congr_left fun q hq => bor_congr (htk q hq) hR2
    exact .calv g caps ps p N ((hs _ (by simp [IOp.opds])).trans hg) hok ((evs_congr fun x hx => hs x (by simp only [IOp.opds]; exact List.mem_cons_of_mem _ hx)).trans hp) hfr (hm ▸ hsat) ht hn
      (fun q hq => PV.tk_mono (htk q hq) (htk q hq) fun t h1 _ => by rw [hR2 t h1]; exact h1)
end
end Go.Vd
