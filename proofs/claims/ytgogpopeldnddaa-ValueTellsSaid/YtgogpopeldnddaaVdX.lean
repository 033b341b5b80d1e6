/- A function's contract, from its code's big steps. -/
import Derived.Test.YtgogpopeldnddaaVdW
import Derived.Laws.Sem
import Derived.Laws.ResultCell
set_option linter.unusedVariables false
set_option linter.unusedSimpArgs false
namespace Go.Vd
open Go.RowKit

inductive IRes where
  | tmp (t : Nat)
  | cell (sz : Nat) (ag : Bool) (t : Nat)

def cres (P : Program) : ResultVar → Option IRes
  | .tmp t => some (.tmp t)
  | .cell a t => match szT P t, isAggT P t with
    | some sz, some ag => some (.cell sz ag a)
    | _, _ => none
def cress (P : Program) : List ResultVar → Option (List IRes)
  | [] => some []
  | x :: r => match cres P x, cress P r with
    | some y, some q => some (y :: q)
    | _, _ => none

structure CF where
  n : Nat
  code : IC
  res : List IRes

def cfunc (P : Program) (fn : Func) : Option CF :=
  match fn.body with
  | some c => match ccode P fn.ntmps c, cress P fn.results.toList with
    | some ic, some rs => some ⟨fn.ntmps, ic, rs⟩
    | _, _ => none
  | none => none

def IRes.get (st : St) : IRes → Option PV
  | .tmp t => st.s t
  | .cell sz ag t => (st.s t).bind (loadv st.r sz ag)
def gets (st : St) : List IRes → Option (List PV)
  | [] => some []
  | x :: r => match x.get st, gets st r with
    | some p, some q => some (p :: q)
    | _, _ => none
def resOf : List PV → PV
  | [p] => p
  | ps => .tup ps

def s0 (n : Nat) (ps : List PV) : Slots := fun k => (ps ++ List.replicate (n - ps.length) PV.undef)[k]?

section
variable {P : Program} {w0 w : World} {O : Nat → Prop} {L : Lent} {n : Nat} {μ : Mu} {st : St} {a : Act}

theorem loadAt_inv {t : TypeId} {u v : Value} (h : (Instr.loadAt t u).run P w = .ok v w) : ∃ A, u = .pointer (some A) ∧ (loadVar t A).run P w = .ok v w := by
  unfold Instr.loadAt Instr.sureAddr at h
  cases u with
  | pointer o =>
    cases o with
    | some A => exact ⟨A, rfl, by simpa using h⟩
    | none => simp [stuck] at h
  | _ => simp [stuck] at h

def resvar (tmps : Array Value) : ResultVar → Sem Value
  | .tmp t => pure (tmps.getD t undef)
  | .cell a t => do loadVar t (← asAddr (tmps.getD a undef))

theorem getD_of {tmps : Array Value} {t : Nat} {v : Value} (h : tmps[t]? = some v) : tmps.getD t undef = v := by
  rw [Array.getD_eq_getD_getElem?, h]
  rfl

theorem cres_run (h : StRel w0 O L n μ st a w) {x : ResultVar} {y : IRes} (hc : cres P x = some y) {p : PV} (hp : y.get st = some p) : ∃ v, (resvar a.tmps x).run P w = .ok v w ∧ Rel w (Av O μ st.r) μ st.r p v := by
  cases x with
  | tmp t =>
    simp only [cres, Option.some.injEq] at hc
    subst hc
    obtain ⟨v, hv, hr⟩ := h.slot t p hp
    exact ⟨v, by simp [resvar, getD_of hv], hr⟩
  | cell b t =>
    simp only [cres] at hc
    split at hc
    · rename_i sz ag hz ha
      cases hc
      simp only [IRes.get] at hp
      obtain ⟨q, hq, hl⟩ := Option.bind_eq_some_iff.1 hp
      obtain ⟨u, hu, hr⟩ := h.slot b q hq
      obtain ⟨v, hrun, hv⟩ := load_run (P := P) ha hz h.rows hr hl
      obtain ⟨A, rfl, hld⟩ := loadAt_inv hrun
      exact ⟨v, by simp [resvar, getD_of hu, asAddr, hld], hv⟩
    · cases hc

theorem cress_run (h : StRel w0 O L n μ st a w) : ∀ {l : List ResultVar} {m : List IRes} {ps : List PV}, cress P l = some m → gets st m = some ps → ∃ vs, (l.mapM (resvar a.tmps)).run P w = .ok vs w ∧ CellsRel w (Av O μ st.r) μ st.r ps vs
  | [], m, ps, hc, hp => by
    simp only [cress, Option.some.injEq] at hc
    subst hc
    simp only [gets, Option.some.injEq] at hp
    subst hp
    exact ⟨[], by simp, rfl, fun j p v hj => by simp at hj⟩
  | x :: r, m, ps, hc, hp => by
    simp only [cress] at hc
    split at hc
    · rename_i y q hy hq
      cases hc
      simp only [gets] at hp
      split at hp
      · rename_i p pq hp1 hp2
        cases hp
        obtain ⟨v, hv, hr⟩ := cres_run h hy hp1
        obtain ⟨vs, hvs, hrs⟩ := cress_run h hq hp2
        refine ⟨v :: vs, by simp [List.mapM_cons, hv, hvs], by simp [hrs.len], fun j p' u hj hu => ?_⟩
        cases j with
        | zero => simp at hj hu; subst hj; subst hu; exact hr
        | succ j => exact hrs.rel j p' u (by simpa using hj) (by simpa using hu)
      · cases hp
    · cases hc

theorem results_run (h : StRel w0 O L n μ st a w) {fn : Func} {m : List IRes} {ps : List PV} (hc : cress P fn.results.toList = some m) (hp : gets st m = some ps) : ∃ v, (results fn a.tmps).run P w = .ok v w ∧ Rel w (Av O μ st.r) μ st.r (resOf ps) v := by
  obtain ⟨vs, hvs, hrs⟩ := cress_run h hc hp
  have heq : results fn a.tmps = (do let vs ← fn.results.toList.mapM (resvar a.tmps); pure (match vs with | [v] => v | vs => .tuple vs.toArray)) := by
    unfold results
    rw [Array.mapM_eq_mapM_toList]
    simp only [map_eq_pure_bind, bind_assoc, pure_bind]
    congr 1
    funext vs
    match vs with
    | [] => rfl
    | [v] => rfl
    | v :: u :: r => simp
  rw [heq]
  refine ⟨_, by simp only [Sem.run_bind, hvs, Result.andThen_ok, Sem.run_pure]; rfl, ?_⟩
  have hl := hrs.len
  cases ps with
  | nil =>
    cases vs with
    | nil => exact .tup [] [] rfl fun j p v hj => by simp at hj
    | cons => simp at hl
  | cons p r =>
    cases vs with
    | nil => simp at hl
    | cons v rs =>
      cases r with
      | nil =>
        cases rs with
        | nil => exact hrs.rel 0 p v rfl rfl
        | cons => simp at hl
      | cons p2 r2 =>
        cases rs with
        | nil => simp at hl
        | cons v2 rs2 => exact .tup (p :: p2 :: r2) (v :: v2 :: rs2) hl hrs.rel

theorem entry {Ri : Rows} {ps : List PV} {vs : List Value} (hO : ∀ b, O b → b < w.heap.size) (hin : InRel w O μ Ri) (hargs : CellsRel w (Av O μ Ri) μ Ri ps vs) (hlen : ps.length ≤ n) :
    StRel w O ⟨Owned μ Ri, fun t => (Ri t).isSome, μ⟩ n μ ⟨s0 n ps, Ri⟩ { tmps := vs.toArray ++ Array.replicate (n - vs.toArray.size) undef, defers := [] } w := by
  have hl := hargs.len
  refine ⟨rfl, ?_, .refl _ _, hO, fun k p hk => ?_, hin.row, hin.inj, fun t row l h1 h2 => ⟨hin.own t row l h1 h2, .inr ⟨t, row, l, h1, h2, rfl⟩⟩, fun t ht => ⟨rfl, Option.isSome_iff_exists.1 ht⟩⟩
  · simp; omega
  · simp only [s0] at hk
    by_cases hkl : k < ps.length
    · rw [List.getElem?_append_left hkl] at hk
      have hv : vs[k]? = some (vs[k]'(by omega)) := List.getElem?_eq_getElem (by omega)
      refine ⟨vs[k]'(by omega), ?_, hargs.rel k p _ hk hv⟩
      rw [Array.getElem?_append_left (by simp; omega)]
      simp
    · rw [List.getElem?_append_right (by omega), List.getElem?_replicate] at hk
      split at hk
      · rename_i hlt
        cases hk
        refine ⟨undef, ?_, .base _ _ .undef⟩
        rw [Array.getElem?_append_right (by simp; omega), Array.getElem?_replicate]
        simp only [List.size_toArray]
        rw [if_pos (by omega)]
      · cases hk

theorem sat_fn (hm : P.follows .mixedOrders = true) {f : FuncId} {fn : Func} {F : CF} (hf : P.funcs[f]? = some fn) (hc : cfunc P fn = some F) {Ri Ro : Rows} {ps rs : List PV} (hlen : ps.length ≤ F.n) {e : Xt} {st' : St}
    (hex : Ex P (fun t => (Ri t).isSome) F.code ⟨s0 F.n ps, Ri⟩ e st') (he : ∀ id, e ≠ .exit id) (hres : gets st' F.res = some rs) (hrt : PV.tks (fun t => (Ro t).isSome) rs = true)
    (hro : ∀ t row, Ro t = some row → st'.r t = some row ∧ row.tk (fun t => (Ro t).isSome) = true) (hri : ∀ t row, Ri t = some row → ∃ row', Ro t = some row' ∧ row'.sz = row.sz ∧ row'.cs.length = row.cs.length) : Sat P f Ri ps (resOf rs) Ro := by
  intro O μ w vs hO hin hargs
  unfold cfunc at hc
  cases hb : fn.body with
  | none => simp [hb] at hc
  | some c =>
    simp only [hb] at hc
    cases h1 : ccode P fn.ntmps c with
    | none => simp [h1] at hc
    | some ic =>
      cases h2 : cress P fn.results.toList with
      | none => simp [h1, h2] at hc
      | some m =>
        simp only [h1, h2, Option.some.injEq] at hc
        subst hc
        refine calls_of_wp hf hb ?_
        refine (hex.goes hm).1 c h1 w O _ μ _ w _ rfl (entry hO hin hargs hlen) fun μ' a' w' hst => ?_
        obtain ⟨v, hv, hr⟩ := results_run hst h2 hres
        have hsub : ∀ t, (Ro t).isSome = true → ∀ row, st'.r t = some row → μ' t = μ' t ∧ ∃ row', Ro t = some row' ∧ row'.sz = row.sz ∧ row.cs.length ≤ row'.cs.length := by
          intro t ht row hrow
          obtain ⟨r, hr⟩ := Option.isSome_iff_exists.1 ht
          have := (hro t r hr).1
          rw [hrow] at this
          cases this
          exact ⟨rfl, row, hr, rfl, Nat.le_refl _⟩
        have hO' : ∀ b, b < w'.heap.size → Av O μ' Ro b → Av O μ' st'.r b := by
          rintro b _ (h | ⟨t, row, l, g1, g2, g3⟩)
          · exact .inl h
          · exact .inr ⟨t, row, l, (hro t row g1).1, g2, g3⟩
        have hend : a'.defers = [] ∧ ∃ v, (results fn a'.tmps).run P w' = .ok v w' ∧ ∃ v' μ', Ending.returned v = .returned v' ∧ Fr (Owned μ Ri) w w' ∧ InRel w' O μ' Ro ∧
            (∀ t row, Ri t = some row → μ' t = μ t ∧ ∃ row', Ro t = some row' ∧ row'.sz = row.sz ∧ row'.cs.length = row.cs.length) ∧
            (∀ t row l, Ro t = some row → Ri t = none → μ' t = some l → w.heap.size ≤ l.b) ∧ Rel w' (Av O μ' Ro) μ' Ro (resOf rs) v' := by
          refine ⟨hst.dfr, v, hv, v, μ', rfl, hst.fr, ⟨fun t row ht => ?_, fun t t' row row' l l' g1 g2 => hst.inj t t' row row' l l' (hro t row g1).1 (hro t' row' g2).1, fun t row l g1 g2 => (hst.own t row l (hro t row g1).1 g2).1⟩, fun t row ht => ?_, fun t row l g1 g2 g3 => ?_, ?_⟩
          · obtain ⟨g1, g2⟩ := hro t row ht
            exact (hst.row t row g1).mono (fun t => (Ro t).isSome) (fun _ _ _ => rfl) hO' (fun u r hu hr => hsub u hu r hr) rfl (fun _ _ => rfl) g2
          · exact ⟨(hst.keep t (by show (Ri t).isSome = true; rw [ht]; rfl)).1, hri t row ht⟩
          · rcases (hst.own t row l (hro t row g1).1 g3).2 with h | ⟨t', row', l', k1, k2, k3⟩
            · exact h
            · have kk := (hst.keep t' (by show (Ri t').isSome = true; rw [k1]; rfl))
              obtain ⟨k4, r', k5⟩ := kk
              have := hst.inj t t' row r' l l' (hro t row g1).1 k5 g3 (k4.trans k2) k3.symm
              rw [this, k1] at g2
              cases g2
          · refine hr.mono (fun t => (Ro t).isSome) (fun _ _ _ => rfl) hO' (fun u r hu hr => hsub u hu r hr) ?_
            cases rs with
            | nil => rfl
            | cons p r => cases r with
              | nil => simp only [PV.tks, Bool.and_true] at hrt; exact hrt
              | cons q r => simpa [resOf, PV.tk] using hrt
        cases e with
        | normal => exact hend
        | ret => exact hend
        | exit id => exact absurd rfl (he id)
end
end Go.Vd
