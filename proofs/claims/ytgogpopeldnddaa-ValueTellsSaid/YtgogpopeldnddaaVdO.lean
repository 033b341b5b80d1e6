/- append. -/
import Derived.Test.YtgogpopeldnddaaVdN
import Derived.Laws.AppendOwn
set_option linter.unusedVariables false
set_option linter.unusedSimpArgs false
namespace Go.Vd
open Go.RowKit

def elemsv (R : Rows) (sz : Nat) : PV → Option (List PV)
  | .nl => some []
  | .sl sz' xs => if sz' = sz then some xs else none
  | .slr t lo n => match R t with
    | some row => if row.sz = sz ∧ row.pr = true then some ((row.cs.drop lo).take n) else none
    | none => none
  | _ => none

section
variable {w : World} {O : Nat → Prop} {μ : Mu} {R : Rows} {P : Program}

/-- The elements that a slice shows, as the machine reads them. -/
structure Shows (P : Program) (w : World) (O : Nat → Prop) (sz : Nat) (ys : List PV) (v : Value) (news : List Value) : Prop where
  len : ∀ w', (Builtin.lenOf v).run P w' = .ok ys.length w'
  first : ∀ w', w'.heap = w.heap → (Builtin.firstCells sz ys.length v).run P w' = .ok news.toArray w'
  cnt : news.length = ys.length * sz
  el : ∀ y ∈ ys, y.cells.length = sz ∧ ∀ q ∈ y.cells, q.one = true
  rel : ∀ (i : Nat) (x : PV) (j : Nat) (q : PV), ys[i]? = some x → x.cells[j]? = some q → ∃ u, news[i * sz + j]? = some u ∧ Rel0 w O q u
  one : ∀ u ∈ news, u.oneCell' = true

theorem divmod_lt {k m sz : Nat} (hz : 0 < sz) (h : k < m * sz) : k / sz < m ∧ k / sz * sz + k % sz = k ∧ k % sz < sz :=
  ⟨Nat.div_lt_of_lt_mul (by rw [Nat.mul_comm]; exact h), by rw [Nat.mul_comm]; exact Nat.div_add_mod k sz, Nat.mod_lt _ hz⟩

/-- Out of cells that lie one behind the other. -/
theorem shows_of (sz : Nat) (hz : 0 < sz) (ys : List PV) (b o c : Nat) (hel : ∀ y ∈ ys, y.cells.length = sz ∧ ∀ q ∈ y.cells, q.one = true)
    (h : ∀ (i : Nat) (x : PV) (j : Nat) (q : PV), ys[i]? = some x → x.cells[j]? = some q → ∃ u, w.cell? ⟨b, o + (i * sz + j), none⟩ = some u ∧ Rel0 w O q u) :
    ∃ news, Shows P w O sz ys (.slice (some ⟨b, o, none⟩) ys.length c) news := by
  have hcell : ∀ k, k < ys.length * sz → ∃ u, w.cell? ⟨b, o + k, none⟩ = some u ∧ ∃ x q, ys[k / sz]? = some x ∧ x.cells[k % sz]? = some q ∧ Rel0 w O q u := by
    intro k hk
    obtain ⟨h1, h2, h3⟩ := divmod_lt hz hk
    have hx : ys[k / sz]? = some (ys[k / sz]'h1) := List.getElem?_eq_getElem h1
    have hxl := (hel _ (List.mem_of_getElem? hx)).1
    have hq : (ys[k / sz]'h1).cells[k % sz]? = some ((ys[k / sz]'h1).cells[k % sz]'(by omega)) := List.getElem?_eq_getElem (by omega)
    obtain ⟨u, hu, hr⟩ := h _ _ _ _ hx hq
    rw [h2] at hu
    exact ⟨u, hu, _, _, hx, hq, hr⟩
  let f : Nat → Value := fun k => (w.cell? ⟨b, o + k, none⟩).getD undef
  have hf : ∀ k, k < ys.length * sz → w.cell? ⟨b, o + k, none⟩ = some (f k) := by
    intro k hk
    obtain ⟨u, hu, _⟩ := hcell k hk
    simp [f, hu]
  refine ⟨(List.range (ys.length * sz)).map f, fun w' => rfl, fun w' hw' => ?_, by simp, hel, fun i x j q hi hj => ?_, fun u hu => ?_⟩
  · have hc : ∀ a : Addr, w'.cell? a = w.cell? a := fun a => by unfold World.cell?; rw [hw']
    exact run_loadCells w' ⟨b, o, none⟩ _ f fun k hk => by rw [Addr.add_lit, hc]; exact hf k hk
  · obtain ⟨u, hu, hr⟩ := h i x j q hi hj
    obtain ⟨hil, _⟩ := List.getElem?_eq_some_iff.1 hi
    obtain ⟨hjl, _⟩ := List.getElem?_eq_some_iff.1 hj
    have hxl := (hel _ (List.mem_of_getElem? hi)).1
    have hk : i * sz + j < ys.length * sz := by
      have : (i + 1) * sz ≤ ys.length * sz := Nat.mul_le_mul_right _ hil
      rw [Nat.add_mul] at this
      omega
    refine ⟨u, ?_, hr⟩
    rw [List.getElem?_map, List.getElem?_range hk]
    simp [f, hu]
  · obtain ⟨k, hk, rfl⟩ := List.mem_map.1 hu
    obtain ⟨u, hu, x, q, hx, hq, hr⟩ := hcell k (List.mem_range.1 hk)
    simp only [f, hu, Option.getD_some]
    exact hr.oneCell ((hel x (List.mem_of_getElem? hx)).2 q (List.mem_of_getElem? hq))

theorem shows_nil (sz : Nat) (A : Option Addr) (c : Nat) : Shows P w O sz [] (.slice A 0 c) [] := by
  refine ⟨(fun _ => rfl), (fun w' _ => ?_), (by simp), (fun y hy => by cases hy), (fun i x j q hi => by simp at hi), (fun u hu => by cases hu)⟩
  cases A with
  | none => simp [Builtin.firstCells]
  | some a =>
    have := run_loadCells_list (P := P) w' a [] (fun j v hj => by simp at hj)
    simpa [Builtin.firstCells] using this

theorem elems_shows {sz : Nat} {y : PV} {v : Value} {ys : List PV} (hR : RowsLie w O μ R) (hy : Rel w O μ R y v) (h : elemsv R sz y = some ys) : ∃ news, Shows P w O sz ys v news := by
  cases y <;> simp only [elemsv] at h <;> try cases h
  case nl =>
    cases hy with | base _ _ h' => cases h'; exact ⟨[], shows_nil sz _ 0⟩
  case sl sz' xs =>
    split at h
    · rename_i he
      cases h
      subst he
      cases hy with
      | base _ _ h' =>
        cases h' with
        | sl0 _ A c => exact ⟨[], shows_nil sz' A c⟩
        | sl _ _ b o c V ho hx hc hz hs h1 h2 => exact shows_of sz' hz ys b o c hs fun i x j q hi hj => ⟨V i j, h1 i x j q hi hj, h2 i x j q hi hj⟩
    · cases h
  case slr t lo k =>
    cases hr : R t with
    | none => simp [hr] at h
    | some row =>
      simp only [hr] at h
      split at h
      · rename_i hc
        obtain ⟨hsz, hpr⟩ := hc
        cases h
        cases hy with
        | base _ _ h' => cases h'
        | slr0 => exact ⟨[], by simpa using shows_nil sz _ 0⟩
        | slr _ _ _ c row' l hr' hm hn hc hroom =>
          rw [hr] at hr'
          cases hr'
          have hrr := hR t row hr
          have hlen : ((row.cs.drop lo).take k).length = k := by simp; omega
          have hz := hrr.sz
          obtain ⟨news, hs⟩ := shows_of (P := P) (w := w) (O := O) sz (by omega) ((row.cs.drop lo).take k) l.b (l.base + lo * row.sz) c (fun y hy => by
            have := hrr.el y (List.mem_of_mem_drop (List.mem_of_mem_take hy))
            rwa [hsz] at this) (fun i x j q hi hj => by
            rw [List.getElem?_take] at hi
            split at hi
            · rw [List.getElem?_drop] at hi
              obtain ⟨u, hu, hcr⟩ := (hrr.lie l hm).cell hi hj
              unfold CellRel at hcr
              rw [hpr, if_pos rfl] at hcr
              refine ⟨u, ?_, hcr⟩
              rw [← hu, hsz, Nat.add_mul]
              congr 2
              omega
            · cases hi)
          rw [hlen] at hs
          exact ⟨news, hs⟩
      · cases h

/-- append within the capacity. -/
theorem run_append_in {t u ty e : TypeId} {i : TypeInfo} (ht : P.underlying t = some (.slice e)) (hu : P.underlying u = some .string ∨ ∃ e', P.underlying u = some (.slice e')) (hi : P.info? e = some i)
    {b o sLen sCap : Nat} {x : Value} {ys : List PV} {news : List Value} (hs : Shows P w O i.size ys x news) (hg : sLen + ys.length ≤ sCap) :
    (Builtin.append_ #[t, u] ty #[.slice (some ⟨b, o, none⟩) sLen sCap, x]).run P w = ((storeCells ⟨b, o + sLen * i.size, none⟩ news 0).run P w).andThen fun _ w' => .ok (.slice (some ⟨b, o, none⟩) (sLen + ys.length) sCap) w' := by
  have hf := hs.first w rfl
  rcases hu with hu | ⟨e', hu⟩
  · simp [Builtin.append_, run_underlying ht, run_underlying hu, sizeOf, typeInfo, hi, hs.len, hg, hf, Addr.add_lit]
  · simp [Builtin.append_, run_underlying ht, run_underlying hu, sizeOf, typeInfo, hi, hs.len, hg, hf, Addr.add_lit]

/-- append of nothing to a slice without capacity. -/
theorem run_append_none {t u ty e : TypeId} {i : TypeInfo} (ht : P.underlying t = some (.slice e)) (hu : P.underlying u = some .string ∨ ∃ e', P.underlying u = some (.slice e')) (hi : P.info? e = some i)
    {A : Option Addr} {x : Value} {news : List Value} (hs : Shows P w O i.size [] x news) :
    (Builtin.append_ #[t, u] ty #[.slice A 0 0, x]).run P w = .ok (.slice A 0 0) w := by
  have hf := hs.first w rfl
  have hn : news = [] := List.eq_nil_of_length_eq_zero (by simpa using hs.cnt)
  subst hn
  simp only [List.length_nil] at hf
  have hl : ∀ w', (Builtin.lenOf x).run P w' = .ok 0 w' := hs.len
  rcases hu with hu | ⟨e', hu⟩ <;> cases A <;>
    simp [Builtin.append_, run_underlying ht, run_underlying hu, sizeOf, typeInfo, hi, hl, hf, storeCells]

/-- append beyond the capacity. -/
theorem run_append_gr {t u ty e : TypeId} {i : TypeInfo} {z : Value} (ht : P.underlying t = some (.slice e)) (hu : P.underlying u = some .string ∨ ∃ e', P.underlying u = some (.slice e')) (hi : P.info? e = some i) (hz : i.zero = some z)
    {s x : Value} {A : Option Addr} {sLen sCap : Nat} (hsv : s = .slice A sLen sCap) {xs ys : List PV} {olds news : List Value} (ho : Shows P w O i.size xs s olds) (hxl : xs.length = sLen) (hs : Shows P w O i.size ys x news) (hg : sCap < sLen + ys.length)
    (h63 : sLen + ys.length ≤ 9223372036854775807) (hfit : Builtin.nextslicecap (sLen + ys.length) sCap * i.bytes ≤ 281474976710656) :
    (Builtin.append_ #[t, u] ty #[s, x]).run P w = .ok (.slice (some ⟨w.heap.size, 0, none⟩) (sLen + ys.length) (grownCap w (sLen + ys.length) sCap e))
      (w.drew.alloc (.cells ((olds ++ news).toArray ++ Builtin.zeroCells z.cells (grownCap w (sLen + ys.length) sCap e - (sLen + ys.length))) e)) := by
  have hn : ¬ (sLen + ys.length ≤ sCap) := by omega
  have h63' : ¬ (9223372036854775807 < ((sLen : Int) + (ys.length : Int))) := by omega
  have h48' : ¬ (281474976710656 < Builtin.nextslicecap (sLen + ys.length) sCap * i.bytes) := by omega
  have hf := hs.first w.drew rfl
  have hfo := ho.first w.drew rfl
  rw [hxl] at hfo
  have hbridge : ∀ (W : World), (Builtin.firstCells i.size sLen s).run P W = (Builtin.firstCells i.size sLen (.slice A sLen sCap)).run P W := fun W => by rw [hsv]
  rw [hbridge] at hfo
  subst hsv
  rcases hu with hu | ⟨e', hu⟩
  · simp [Builtin.append_, run_underlying ht, run_underlying hu, sizeOf, typeInfo, zeroValue, hi, hz, hs.len, hn, h63', h48', Question.forced, hf, hfo, newRow, grownCap]
    rw [← List.append_toArray, Array.append_assoc]
  · simp [Builtin.append_, run_underlying ht, run_underlying hu, sizeOf, typeInfo, zeroValue, hi, hz, hs.len, hn, h63', h48', Question.forced, hf, hfo, newRow, grownCap]
    rw [← List.append_toArray, Array.append_assoc]

theorem shows_append {sz : Nat} (hz : 0 < sz) {xs ys : List PV} {s x : Value} {olds news : List Value} (ho : Shows P w O sz xs s olds) (hs : Shows P w O sz ys x news) (rest : List Value) :
    ∀ (i : Nat) (y : PV) (j : Nat) (q : PV), (xs ++ ys)[i]? = some y → y.cells[j]? = some q → ∃ u, (olds ++ news ++ rest)[i * sz + j]? = some u ∧ Rel0 w O q u := by
  intro i y j q hi hj
  obtain ⟨hjl, _⟩ := List.getElem?_eq_some_iff.1 hj
  by_cases hil : i < xs.length
  · rw [List.getElem?_append_left hil] at hi
    obtain ⟨u, hu, hr⟩ := ho.rel i y j q hi hj
    refine ⟨u, ?_, hr⟩
    obtain ⟨hlt, _⟩ := List.getElem?_eq_some_iff.1 hu
    rw [List.append_assoc, List.getElem?_append_left hlt]
    exact hu
  · rw [List.getElem?_append_right (by omega)] at hi
    obtain ⟨u, hu, hr⟩ := hs.rel _ y j q hi hj
    refine ⟨u, ?_, hr⟩
    obtain ⟨hlt, _⟩ := List.getElem?_eq_some_iff.1 hu
    have hsplit : i * sz + j = xs.length * sz + ((i - xs.length) * sz + j) := by
      rw [← Nat.add_assoc, ← Nat.add_mul]
      congr 2
      omega
    rw [hsplit, List.append_assoc, List.getElem?_append_right (by rw [ho.cnt]; omega), ho.cnt, Nat.add_sub_cancel_left, List.getElem?_append_left hlt]
    exact hu
end

end Go.Vd
