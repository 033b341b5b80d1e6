/- Arguments opened: from what a row reads to abstract values. -/
import Derived.Test.YtgogpopeldnddaaVeB
import Derived.SliceStrings
set_option linter.unusedVariables false
set_option linter.unusedSimpArgs false
namespace Go.Vd
open Go.RowKit

theorem rel_str {w : World} {O : Nat → Prop} (s : ByteArray) : Rel0 w O (.str s.data.toList) (.string s) := by
  have h := Rel0.str (w := w) (O := O) s.data.toList
  rwa [ba_mk] at h

/-- A slice of texts. -/
theorem rel_strings {H : Type} {enc : TypeId × Value → H} {P : Program} {w : World} {held : Bool} {base : Nat} {t e : TypeId} {a : Option Addr} {len cap : Nat} {d : DataW H} {ps : List MemPlace} (ht : P.underlying t = some (.slice e)) (he : P.underlying e = some .string) (hc : P.cellsOf e = 1)
    (h : DataW.Trod enc P w base (fun _ => true) held t (.slice a len cap) d ps) : ∃ ls : List (List UInt8), Rel0 w (fun _ => False) (.sl 1 (ls.map .str)) (.slice a len cap) := by
  obtain ⟨fuel, hf⟩ := h
  rcases Go.ChangeShapes.open_strings ht he hc hf with ⟨hcs, _⟩ | ⟨A, l, c, ss, hcs, _, hl, _, hlen, _, hcell, _⟩
  · simp [Value.cells] at hcs
    obtain ⟨rfl, rfl, rfl⟩ := hcs
    exact ⟨[], .sl0 1 none 0⟩
  · simp [Value.cells] at hcs
    obtain ⟨rfl, rfl, rfl⟩ := hcs
    simp only [if_true] at hlen
    refine ⟨(ss.take len).map fun s => s.data.toList, ?_⟩
    by_cases h0 : len = 0
    · subst h0
      exact .sl0 1 (some A) cap
    · have hxl : (((ss.take len).map fun s => s.data.toList).map PV.str).length = len := by simp; omega
      have hspot : A.spot = none := by
        have := hcell 0 (by omega)
        unfold World.cell? at this
        cases hs : A.spot with
        | none => rfl
        | some x =>
          have hadd : A.add 0 = A := rfl
          rw [hadd, hs] at this
          split at this <;> simp at this
      obtain ⟨b, o, sp⟩ := A
      simp only at hspot
      subst hspot
      have hget : ∀ (i : Nat) (x : PV), (((ss.take len).map fun s => s.data.toList).map PV.str)[i]? = some x → ∃ s, ss[i]? = some s ∧ x = .str s.data.toList := by
        intro i x hx
        rw [List.getElem?_map, List.getElem?_map, List.getElem?_take] at hx
        split at hx
        · cases hs : ss[i]? with
          | none => rw [hs] at hx; simp at hx
          | some s => rw [hs] at hx; simp at hx; exact ⟨s, rfl, hx.symm⟩
        · simp at hx
      have := Rel0.sl (w := w) (O := fun _ => False) 1 (((ss.take len).map fun s => s.data.toList).map PV.str) b o cap (fun i _ => .string (ss.getD i ByteArray.empty)) (fun h => h) (fun e => by rw [e] at hxl; simp at hxl; omega) (by omega) (by decide)
        (fun x hx => by
          obtain ⟨i, hi⟩ := List.getElem?_of_mem hx
          obtain ⟨s, _, rfl⟩ := hget i x hi
          exact ⟨rfl, fun p hp => by simp [PV.cells] at hp; subst hp; rfl⟩) (fun i x j p hi hj => by
          obtain ⟨s, hs, rfl⟩ := hget i x hi
          have hj0 : j = 0 := by cases j with | zero => rfl | succ j => simp [PV.cells] at hj
          subst hj0
          have hlt := (List.getElem?_eq_some_iff.1 hs).1
          have hc := hcell i hlt
          rw [Nat.mul_one, Nat.add_zero]
          rw [← hc]
          unfold Addr.add
          by_cases hi0 : i = 0
          · subst hi0; rfl
          · rw [if_neg hi0]) (fun i x j p hi hj => by
          obtain ⟨s, hs, rfl⟩ := hget i x hi
          have hj0 : j = 0 := by cases j with | zero => rfl | succ j => simp [PV.cells] at hj
          subst hj0
          simp [PV.cells] at hj
          subst hj
          rw [List.getD_eq_getElem?_getD, hs]
          exact rel_str s)
      rw [hxl] at this
      exact this
end Go.Vd
