/- Literals, comparisons of structs, closures; and the program that compiles operations. -/
import Derived.Test.YtgogpopeldnddaaVdF
set_option linter.unusedVariables false
set_option linter.unusedSimpArgs false
namespace Go.Vd
open Go.RowKit

section
variable {w : World} {O : Nat → Prop} {μ : Mu} {R : Rows} {P : Program}

theorem splice_toList (vs : List Value) : ∀ (k off : Nat) (A : Array Value), off + k + vs.length ≤ A.size →
    ((vs.zipIdx k).foldl (fun cs (x : Value × Nat) => cs.setIfInBounds (off + x.2) x.1) A).toList = A.toList.take (off + k) ++ vs ++ A.toList.drop (off + k + vs.length) := by
  induction vs with
  | nil => intro k off A _; simp
  | cons v vs ih =>
    intro k off A h
    simp only [List.length_cons] at h
    simp only [List.zipIdx_cons, List.foldl_cons]
    rw [ih (k + 1) off _ (by simp; omega)]
    rw [Array.toList_setIfInBounds]
    have hlt : off + k < A.toList.length := by simp; omega
    have e1 : (A.toList.set (off + k) v).take (off + (k + 1)) = A.toList.take (off + k) ++ [v] := by
      rw [← Nat.add_assoc, List.take_succ_eq_append_getElem (by simpa using hlt), List.take_set, List.set_eq_of_length_le (by simp; omega)]
      simp
    have e2 : (A.toList.set (off + k) v).drop (off + (k + 1) + vs.length) = A.toList.drop (off + k + (v :: vs).length) := by
      rw [List.drop_set_of_lt (by omega)]
      congr 1
      simp only [List.length_cons]
      omega
    rw [e1, e2]
    simp

theorem fill_run {place : Nat → Option (Nat × Nat)} {s : Slots} {a : Act} : ∀ (pl : List (Nat × Operand)) (parts : List (Nat × Nat × Opd)) (z : List PV) (A : List Value) (q : List PV),
    pl.length = parts.length →
    (∀ (j : Nat) (i : Nat) (x : Operand) (off sz : Nat) (y : Opd), pl[j]? = some (i, x) → parts[j]? = some (off, sz, y) → place i = some (off, sz) ∧ ∀ p, y.ev s = some p → Rel w O μ R p (a.eval x)) →
    A.length = z.length → (∀ p ∈ z, p.one = true) → (∀ (j : Nat) (p : PV) (u : Value), z[j]? = some p → A[j]? = some u → Rel w O μ R p u) → lay z parts s = some q →
    ∃ B : List Value, Instr.fill place A.toArray (pl.map fun x => (x.1, a.eval x.2)) = some B.toArray ∧ B.length = q.length ∧ (∀ p ∈ q, p.one = true) ∧
      ∀ (j : Nat) (p : PV) (u : Value), q[j]? = some p → B[j]? = some u → Rel w O μ R p u
  | [], parts, z, A, q, hl, _, hA, hz, hr, h => by
    cases parts with
    | nil => simp only [lay, Option.some.injEq] at h; subst h; exact ⟨A, rfl, hA, hz, hr⟩
    | cons => simp at hl
  | (i, x) :: pl, parts, z, A, q, hl, hp, hA, hz, hr, h => by
    cases parts with
    | nil => simp at hl
    | cons y parts =>
      obtain ⟨off, sz, y⟩ := y
      obtain ⟨hplace, hrel⟩ := hp 0 i x off sz y rfl rfl
      simp only [lay] at h
      cases hy : y.ev s with
      | none => simp [hy] at h
      | some p =>
        simp only [hy] at h
        split at h
        · rename_i hc
          obtain ⟨hc1, hc2, hc3⟩ := hc
          obtain ⟨vs, hv1, hv2, hv3⟩ := (hrel p hy).cells
          have hvs : vs.length = sz := by omega
          have hone : ∀ q ∈ z.take off ++ p.cells ++ z.drop (off + sz), q.one = true := by
            intro r hm
            rcases List.mem_append.1 hm with hm | hm
            · rcases List.mem_append.1 hm with hm | hm
              · exact hz r (List.mem_of_mem_take hm)
              · exact List.all_eq_true.1 hc3 r hm
            · exact hz r (List.mem_of_mem_drop hm)
          obtain ⟨B, hB, hB2⟩ := fill_run (place := place) (a := a) pl parts (z.take off ++ p.cells ++ z.drop (off + sz)) (A.take off ++ vs ++ A.drop (off + sz)) q (by simpa using hl)
            (fun j => hp (j + 1)) (by simp [hv2, hA]) hone (fun j r u hj hu => by
              have l1 : (z.take off).length = off := by simp; omega
              have l2 : (A.take off).length = off := by simp; omega
              rw [List.append_assoc] at hj hu
              rcases Nat.lt_or_ge j off with h1 | h1
              · rw [List.getElem?_append_left (by omega), List.getElem?_take, if_pos h1] at hj hu
                exact hr j r u hj hu
              · rw [List.getElem?_append_right (by omega), l1] at hj
                rw [List.getElem?_append_right (by omega), l2] at hu
                rcases Nat.lt_or_ge (j - off) sz with h2 | h2
                · rw [List.getElem?_append_left (by omega)] at hj hu
                  exact hv3 _ r u hj hu
                · rw [List.getElem?_append_right (by omega), List.getElem?_drop] at hj hu
                  rw [hc1] at hj
                  rw [hvs] at hu
                  exact hr _ r u hj hu) h
          refine ⟨B, ?_, hB2⟩
          simp only [List.map_cons, Instr.fill, hplace, hv1]
          have hsz1 : vs.toArray.size = sz := by simpa using hvs
          have hsz2 : A.toArray.size = z.length := by simpa using hA
          rw [hsz1, hsz2, if_neg (by simp; omega)]
          rw [← hB]
          congr 1
          have := splice_toList vs 0 off A.toArray (by simp; omega)
          simp only [Nat.add_zero, hvs] at this
          rw [show A.take off ++ vs ++ A.drop (off + sz) = (List.foldl (fun cs (x : Value × Nat) => cs.setIfInBounds (off + x.2) x.1) A.toArray (vs.zipIdx 0)).toList from this.symm]
          rw [Array.toArray_toList]
          rw [← Array.foldl_toList]
          simp
        · cases h

end
end Go.Vd
