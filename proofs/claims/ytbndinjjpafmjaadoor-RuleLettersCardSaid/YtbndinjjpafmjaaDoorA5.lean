/- A part of the proof: a logic of values, rows and steps. -/
import Derived.Test.YtbndinjjpafmjaaDoorA4
import Derived.Shelf.Strings.OnBuilder
import Derived.Lib.Bytealg
section
set_option linter.unusedVariables false
set_option linter.unusedSimpArgs false
namespace Go.Gp
open Go.Vd Go.RowKit
def strings_IndexByte (N : Nat) (s : List UInt8) (c : UInt8) : Option Int := some (Lib.indexByte s c)
def stringslite_Index (N : Nat) (s p : List UInt8) : Option Int := match p with
  | [c] => some (Lib.indexByte s c)
  | _ => none
theorem stringslite_Index_inv {N : Nat} {s p : List UInt8} {r : Int} (h : stringslite_Index N s p = some r) : ∃ c, p = [c] ∧ r = Lib.indexByte s c := by
  unfold stringslite_Index at h
  split at h
  · rename_i c; exact ⟨c, rfl, by simpa using h.symm⟩
  · cases h
def strings_Join (N : Nat) (xs : List (List UInt8)) (sep : List UInt8) : Option (List UInt8) := if xs.length ≤ 140737488355328 ∧ (Lib.join xs sep).length ≤ 140737488355328 then some (Lib.join xs sep) else none
theorem sat_join {P : Program} {f : FuncId} (hn : ∀ (a : Option Addr) (c : Nat) (sep : ByteArray) (w : World), Calls P f #[.slice a 0 c, .string sep] w fun e w' => e = .returned (.string ⟨#[]⟩) ∧ w' = w)
    (hj : ∀ (bk o c : Nat) (xs : List ByteArray) (sep : ByteArray) (w : World), (∀ (j : Nat) x, xs[j]? = some x → w.cell? ⟨bk, o + j, none⟩ = some (.string x)) → bk < w.heap.size → xs.length ≤ 140737488355328 → xs.length ≤ c →
      (Lib.join (xs.map (·.data.toList)) sep.data.toList).length ≤ 140737488355328 → Calls P f #[.slice (some ⟨bk, o, none⟩) xs.length c, .string sep] w fun e w' => e = .returned (.string ⟨(Lib.join (xs.map (·.data.toList)) sep.data.toList).toArray⟩) ∧ Below w.heap.size w w')
    {N : Nat} {xs : List (List UInt8)} {sep r : List UInt8} (h : strings_Join N xs sep = some r) : Sat P f noRows [.sl 1 (List.map PV.str xs), .str sep] (.str r) noRows := by
  unfold strings_Join at h
  by_cases hc : xs.length ≤ 140737488355328 ∧ (Lib.join xs sep).length ≤ 140737488355328
  case neg => rw [if_neg hc] at h; cases h
  rw [if_pos hc] at h
  obtain ⟨hc1, hc2⟩ := hc
  cases h
  intro O μ w vs hO hin hargs
  have hl := hargs.len
  have post : ∀ w', Below w.heap.size w w' → ∃ v μ', Ending.returned (.string ⟨(Lib.join xs sep).toArray⟩) = .returned v ∧ Fr (Owned μ noRows) w w' ∧ InRel w' O μ' noRows ∧ (∀ t row, noRows t = some row → μ' t = μ t ∧ ∃ row', noRows t = some row' ∧ row'.sz = row.sz ∧ row'.cs.length = row.cs.length) ∧
      (∀ t row l, noRows t = some row → noRows t = none → μ' t = some l → w.heap.size ≤ l.b) ∧ Rel w' (Av O μ' noRows) μ' noRows (.str (Lib.join xs sep)) v := by
    intro w' hb
    exact ⟨_, μ, rfl, ⟨hb.os, hb.tape, hb.output, hb.size, fun b hb2 _ => hb.block b hb2⟩, ⟨fun t row ht => by simp [noRows] at ht, fun t t' row row' l l' h => by simp [noRows] at h, fun t row l h => by simp [noRows] at h⟩,
      fun t row ht => by simp [noRows] at ht, fun t row l ht => by simp [noRows] at ht, .base _ _ (.str _)⟩
  match vs, hl with
  | [v1, v2], _ =>
    have r1 := hargs.rel 0 _ v1 rfl rfl
    have r2 := (hargs.rel 1 _ v2 rfl rfl).str_inv
    subst r2
    cases r1 with
    | base _ _ h =>
      generalize hx : List.map PV.str xs = ys at h
      cases h with
      | sl0 _ A c =>
        have : xs = [] := by simpa using hx
        subst this
        refine (hn A c ⟨sep.toArray⟩ w).mono ?_
        rintro e w' ⟨rfl, rfl⟩
        exact post _ (Below.refl _ _)
      | sl _ _ b o c V ho hxx hcap hz hs h1 h2 =>
        subst hx
        have hcell : ∀ (j : Nat) (x : ByteArray), (xs.map fun l => (⟨l.toArray⟩ : ByteArray))[j]? = some x → w.cell? ⟨b, o + j, none⟩ = some (.string x) := by
          intro j x hj
          rw [List.getElem?_map] at hj
          obtain ⟨l, hl, rfl⟩ := Option.map_eq_some_iff.1 hj
          have e1 := h1 j (.str l) 0 (.str l) (by rw [List.getElem?_map, hl]; rfl) rfl
          have e2 := h2 j (.str l) 0 (.str l) (by rw [List.getElem?_map, hl]; rfl) rfl
          generalize V j 0 = v at e1 e2
          cases e2
          simpa using e1
        have hne : xs ≠ [] := by intro e; subst e; exact hxx rfl
        obtain ⟨x0, hx0⟩ : ∃ x, (xs.map fun l => (⟨l.toArray⟩ : ByteArray))[0]? = some x := by
          cases xs with
          | nil => exact absurd rfl hne
          | cons x r => exact ⟨_, rfl⟩
        have hmm : (xs.map fun l => (⟨l.toArray⟩ : ByteArray)).map (·.data.toList) = xs := by
          rw [List.map_map]
          conv => rhs; rw [← List.map_id xs]
          exact List.map_congr_left fun l _ => by simp
        have hlen : (xs.map fun l => (⟨l.toArray⟩ : ByteArray)).length = (List.map PV.str xs).length := by simp
        have := hj b o c (xs.map fun l => ⟨l.toArray⟩) ⟨sep.toArray⟩ w hcell (World.block_lt_of_cell? _ _ (hcell 0 x0 hx0)) (by simpa using hc1) (by simpa using hcap) (by rw [hmm]; exact hc2)
        rw [hmm, hlen] at this
        refine this.mono ?_
        rintro e w' ⟨rfl, hb⟩
        exact post w' hb
end Go.Gp
end
section
set_option linter.unusedVariables false
set_option linter.unusedSimpArgs false
namespace Go.Vd
open Go.RowKit
def strings_Count (N : Nat) (s p : List UInt8) : Option Int := match p with
  | [c] => some (Lib.countByte s c : Int)
  | _ => none
theorem strings_Count_inv {N : Nat} {s p : List UInt8} {r : Int} (h : strings_Count N s p = some r) : ∃ c, p = [c] ∧ r = (Lib.countByte s c : Int) := by
  unfold strings_Count at h
  split at h
  · rename_i c; exact ⟨c, rfl, by simpa using h.symm⟩
  · cases h
def nn (n : Int) : Option Unit := if 0 ≤ n then some () else none
def shlK (k : IntKind) (a n : Int) : Int := k.wrap (a * 2 ^ min n.toNat k.bits)
def shrK (k : IntKind) (a n : Int) : Int := a.fdiv (2 ^ min n.toNat k.bits)
theorem nn_inv {n : Int} {u : Unit} (h : nn n = some u) : 0 ≤ n := by
  unfold nn at h
  split at h
  · assumption
  · cases h
section
variable {s : Slots} {R : Rows}
theorem p_shlK {x y : Opd} {k k' : IntKind} {a n : Int} (h : 0 ≤ n) (hx : x.ev s = some (.int k a)) (hy : y.ev s = some (.int k' n)) : pop s R (.bin .shl x y) = some (.int k (shlK k a n)) := by
  simp only [pop, hx, hy, opt2, binv, isShift, ishift]
  simp only [if_true]
  rw [if_neg (by omega)]
  rfl
theorem p_shrK {x y : Opd} {k k' : IntKind} {a n : Int} (h : 0 ≤ n) (hx : x.ev s = some (.int k a)) (hy : y.ev s = some (.int k' n)) : pop s R (.bin .shr x y) = some (.int k (shrK k a n)) := by
  simp only [pop, hx, hy, opt2, binv, isShift, ishift]
  simp only [if_true]
  rw [if_neg (by omega)]
  rfl
end
section
variable {T : Nat → Bool}
theorem tks_true' : ∀ l : List PV, PV.tks (fun _ => true) l = true
  | [] => rfl
  | p :: l => by rw [PV.tks, PV.tk_true, tks_true' l]; rfl
theorem rsub (t : Nat) {sz : Nat} {x y : PV} {st : St} (hs : Subs x.cells y.cells) (ht : st.r t = some ⟨sz, false, [x]⟩) (ho : y.cells.all PV.one = true) : Norm T st ⟨st.s, upd st.r t (some ⟨sz, false, [y]⟩)⟩ := by
  intro w0 O L n μ a w hL h
  have he : ∀ u row, (fun _ => true) u = true → st.r u = some row → μ u = μ u ∧ ∃ row', upd st.r t (some ⟨sz, false, [y]⟩) u = some row' ∧ row'.sz = row.sz ∧ row.cs.length ≤ row'.cs.length := by
    intro u row _ hu
    refine ⟨rfl, ?_⟩
    by_cases e : u = t
    · subst e
      rw [ht] at hu
      cases hu
      exact ⟨_, upd_same .., rfl, Nat.le_refl _⟩
    · exact ⟨row, by rw [upd_ne _ _ e]; exact hu, rfl, Nat.le_refl _⟩
  have hin : ∀ u row, upd st.r t (some ⟨sz, false, [y]⟩) u = some row → ∃ row', st.r u = some row' := by
    intro u row hu
    by_cases e : u = t
    · subst e; exact ⟨_, ht⟩
    · rw [upd_ne _ _ e] at hu; exact ⟨_, hu⟩
  have hO : ∀ b, b < w.heap.size → Av O μ (upd st.r t (some ⟨sz, false, [y]⟩)) b → Av O μ st.r b := by
    intro b _ hb
    rcases hb with hb | ⟨u, row, l, h1, h2, h3⟩
    · exact .inl hb
    · obtain ⟨row', h4⟩ := hin u row h1
      exact .inr ⟨u, row', l, h4, h2, h3⟩
  have hw : ∀ b, b < w.heap.size → ¬ Av O μ st.r b → w.heap[b]? = w.heap[b]? := fun _ _ _ => rfl
  refine ⟨μ, h.dfr, h.size, h.fr, h.out, fun j p hj => ?_, fun u row hu => ?_, fun u u' r r' l l' h1 h2 h3 h4 h5 => ?_, fun u r l h1 h2 => ?_, fun u hu => ?_⟩
  · obtain ⟨v, hv, hr⟩ := h.slot j p hj
    exact ⟨v, hv, hr.mono (fun _ => true) hw hO he (PV.tk_true _)⟩
  · simp only at hu
    by_cases e : u = t
    · subst e
      rw [upd_same] at hu
      cases hu
      have k := h.row u _ ht
      refine ⟨k.sz, fun z hz => ?_, fun hn => ?_, fun l hl => ?_, fun q hq l hl => ?_⟩
      · simp only [List.mem_singleton] at hz
        subst hz
        have := (k.el x (by simp)).1
        exact ⟨by rw [← hs.len]; exact this, fun p hp => List.all_eq_true.1 ho p hp⟩
      · have := k.non hn
        simp at this
      · obtain ⟨arr, ety, fz, h1, h2, h3, h4, h5⟩ := k.lie l hl
        refine ⟨arr, ety, fz, h1, h2, by simpa using h3, h4, fun i z j q hi hj => ?_⟩
        cases i with
        | succ i => simp at hi
        | zero =>
          simp only [List.getElem?_cons_zero, Option.some.injEq] at hi
          subst hi
          obtain ⟨p, hp, hsub⟩ := hs.get j q hj
          obtain ⟨v, hv, hc⟩ := h5 0 x j p rfl hp
          refine ⟨v, hv, ?_⟩
          unfold CellRel at hc ⊢
          rw [if_neg (by simp)] at hc ⊢
          exact hsub _ _ _ _ _ (hc.mono (fun _ => true) hw hO he (PV.tk_true _))
      · obtain ⟨e1, arr, fz, e2, e3⟩ := k.ty q hq l hl
        exact ⟨e1, arr, fz, e2, e3⟩
    · rw [upd_ne _ _ e] at hu
      exact (h.row u row hu).mono (fun _ => true) hw hO he rfl (fun _ _ => rfl) (by unfold Row.tk; rw [tks_true']; simp)
  · obtain ⟨s, hs'⟩ := hin u r h1
    obtain ⟨s', hs''⟩ := hin u' r' h2
    exact h.inj u u' s s' l l' hs' hs'' h3 h4 h5
  · obtain ⟨s, hs'⟩ := hin u r h1
    exact h.own u s l hs' h2
  · obtain ⟨h1, r, h2⟩ := h.keep u hu
    obtain ⟨_, row', h3, _⟩ := he u r rfl h2
    exact ⟨h1, row', h3⟩
end
end Go.Vd
end
