/- A literal of elements, the bytes of a text, zeros; a store. -/
import Derived.Test.YtgogpopeldnddaaVdK
import Derived.Laws.IdiomStrings
set_option linter.unusedVariables false
set_option linter.unusedSimpArgs false
namespace Go.Vd
open Go.RowKit

theorem fill_concat (sz : Nat) (hsz : 0 < sz) : ∀ (pl : List (Nat × Value)) (k : Nat) (A : List Value), (∀ x ∈ pl, x.2.cells.size = sz) → pl.map (·.1) = List.range' k pl.length → A.length = (k + pl.length) * sz →
    Instr.fill (fun i => some (i * sz, sz)) A.toArray pl = some (A.take (k * sz) ++ pl.flatMap fun x => x.2.cells.toList).toArray
  | [], k, A, _, _, hA => by
    simp only [Instr.fill, List.flatMap_nil, List.append_nil]
    rw [List.take_of_length_le (by simp at hA; omega)]
  | (i, v) :: pl, k, A, hc, hi, hA => by
    simp only [List.map_cons, List.length_cons, List.range'_succ, List.cons.injEq] at hi
    obtain ⟨rfl, hi⟩ := hi
    have hv : v.cells.size = sz := hc (i, v) (by simp)
    simp only [List.length_cons] at hA
    have hA' : i * sz + sz + pl.length * sz = A.length := by rw [hA, Nat.add_mul, Nat.add_mul]; omega
    simp only [Instr.fill]
    rw [hv, if_neg (by simp; omega)]
    have hsp := splice_toList v.cells.toList 0 (i * sz) A.toArray (by simp [hv]; omega)
    have hfold : (v.cells.zipIdx.foldl (fun cs (x : Value × Nat) => cs.setIfInBounds (i * sz + x.2) x.1) A.toArray) = (A.take (i * sz) ++ v.cells.toList ++ A.drop (i * sz + sz)).toArray := by
      apply Array.toList_inj.1
      rw [← Array.foldl_toList]
      simp only [Array.toList_zipIdx]
      rw [hsp]
      simp [hv]
    rw [show (fun (cs : Array Value) (x : Value × Nat) => match x with | (c, j) => cs.setIfInBounds (i * sz + j) c) = fun cs x => cs.setIfInBounds (i * sz + x.2) x.1 from rfl, hfold]
    rw [fill_concat sz hsz pl (i + 1) _ (fun x hx => hc x (by simp [hx])) hi (by simp [hv]; rw [Nat.add_mul, Nat.add_mul]; omega)]
    congr 1
    rw [List.flatMap_cons, ← List.append_assoc]
    congr 2
    have l1 : (A.take (i * sz)).length = i * sz := by simp; omega
    have l2 : v.cells.toList.length = sz := by simpa using hv
    rw [List.take_append_of_le_length (by simp [hv]; rw [Nat.add_mul]; omega), List.take_of_length_le (by simp [hv]; rw [Nat.add_mul]; omega)]

section
variable {w0 w : World} {O : Nat → Prop} {L : Lent} {n : Nat} {μ : Mu} {R : Rows} {P : Program} {st : St} {a : Act}

theorem bsl_done {o : Oper} {sz : Nat} {xs : List Opd} (hc : copE P o = some (.bsl sz xs)) (hd : ∀ d, o.dst = some d → d < n) (h : StRel w0 O L n μ st a w) {ps : List PV} (hp : evs st.s xs = some ps)
    (hel : ∀ p ∈ ps, p.cells.length = sz ∧ (∀ q ∈ p.cells, q.one = true) ∧ p.free = true) (t : Nat) (ht : st.r t = none) :
    ∃ a' w', Done P o a w a' w' ∧ ∃ μ', StRel w0 O L n μ' (St.put ⟨st.s, upd st.r t (some ⟨sz, true, ps⟩)⟩ o.dst (.slr t 0 ps.length)) a' w' := by
  cases copE_inv hc with
  | bsl t' e m parts _ z _ ho htt hsz hz hm hpi hb h0 hx =>
    obtain ⟨i, zv, hi, hzv, hzr, hzl, hzp, hzo⟩ := czero_spec hz
    have hsz' : i.size = sz := by simp [szT, hi] at hsz; exact hsz
    have hr := evs_rel h.slots _ _ _ hx hp
    obtain ⟨e1, e2⟩ := elems_cells hr (fun p hp => (hel p hp).1) (fun p hp => (hel p hp).2.2)
    have hlen : ps.length = m := by have := hr.len; simp at this; omega
    have hpos : 0 < sz := by omega
    have hzc : zv.cells.size = sz := by
      obtain ⟨vs, h1, h2, _⟩ := (Rel.base (μ := μ) (R := st.r) _ _ (hzr w O)).cells
      rw [h1]; simp; omega
    -- the parts, as the machine lays them
    have hfill : ∀ (A : Array Value), A.size = m * sz → Instr.fill (fun i => some (i * sz, sz)) A (parts.toList.map fun x => (x.1, a.eval x.2)) =
        some (((parts.toList.map (·.2)).map a.eval).flatMap fun u => u.cells.toList).toArray := by
      intro A hA
      have := fill_concat sz hpos (parts.toList.map fun x => (x.1, a.eval x.2)) 0 A.toList (fun x hx => by
        obtain ⟨⟨i, y⟩, hy, rfl⟩ := List.mem_map.1 hx
        obtain ⟨j, hj⟩ := List.getElem?_of_mem hy
        have hj2 : ((parts.toList.map (·.2)).map a.eval)[j]? = some (a.eval y) := by simp [hj]
        obtain ⟨hlt, _⟩ := List.getElem?_eq_some_iff.1 hj2
        have hpj : ps[j]? = some (ps[j]'(by have := hr.len; omega)) := List.getElem?_eq_getElem (by have := hr.len; omega)
        have hrel := hr.rel j _ _ hpj hj2
        obtain ⟨vs, h1, h2, _⟩ := hrel.cells
        rw [h1]
        have := (hel _ (List.mem_of_getElem? hpj)).1
        simp
        omega) (by rw [List.map_map, show ((fun (x : Nat × Value) => x.1) ∘ fun (x : Nat × Operand) => (x.1, a.eval x.2)) = (fun x => x.1) from rfl]; simpa [List.range_eq_range', hm] using hpi) (by simp [hA, hm])
      rw [Array.toArray_toList] at this
      rw [this]
      simp [List.flatMap_map]
    have hA : ((Array.range (m * sz)).map (fun j => zv.cells[j % zv.cells.size]!)).size = m * sz := by simp
    have hrun : (execOp a.eval o).run P w = .ok (.value (.slice (some ⟨w.heap.size, 0, none⟩) ps.length m)) (w.alloc (.cells (((parts.toList.map (·.2)).map a.eval).flatMap fun u => u.cells.toList).toArray e)) := by
      simp only [execOp, ho]
      have hmz : m * sz ≠ 0 := Nat.mul_ne_zero (by omega) (by omega)
      have hzero : (zeroValue e).run P w = .ok zv w := by simp [zeroValue, typeInfo, hi, hzv]
      have hlist : (parts.map fun (x : Nat × Operand) => (x.1, a.eval x.2)).toList = parts.toList.map fun x => (x.1, a.eval x.2) := by simp
      unfold Instr.buildSlice
      simp only [Sem.run_bind, run_underlying htt, Result.andThen_ok, run_szT hsz, Sem.run_ite, if_neg (show ¬ m * sz > 2 ^ 24 by omega), Sem.run_pure, if_neg hmz, hzero, hlist, hfill _ hA]
      simp [newRow, hlen]
    refine row_done hd h hpos (fun p hp => ⟨(hel p hp).1, (hel p hp).2.1⟩) t ht (fz := (0, 0)) (fun j _ hj => by simp at hj) (by omega) (by simp only [List.size_toArray, e1, hlen]; exact Nat.le_refl _) (fun i x j q hi hj => ?_) (.inr rfl) hrun
    obtain ⟨v, hv, hrel⟩ := e2 i x j q hi hj
    exact ⟨v, by simpa using hv, hrel⟩

/-- The bytes of a text, as cells. -/
def bytesP (s : List UInt8) : List PV := s.map fun b => .int .u8 (b.toNat : Int)
def bytesV (s : List UInt8) (k : Nat) : Array Value := ((s.map fun b => Value.int .u8 (b.toNat : Int)) ++ List.replicate k (Value.int .u8 0)).toArray
theorem bytesP_len (s : List UInt8) : (bytesP s).length = s.length := by simp [bytesP]
theorem bytesV_size (s : List UInt8) (k : Nat) : (bytesV s k).size = s.length + k := by simp [bytesV]

theorem cvs_done {o : Oper} {x : Opd} (hc : copE P o = some (.cvs x)) (hd : ∀ d, o.dst = some d → d < n) (h : StRel w0 O L n μ st a w) {s : List UInt8} (hp : x.ev st.s = some (.str s)) (t : Nat) (ht : st.r t = none) :
    ∃ a' w', Done P o a w a' w' ∧ ∃ μ', StRel w0 O L n μ' (St.put ⟨st.s, upd st.r t (some ⟨1, true, bytesP s⟩)⟩ o.dst (.slr t 0 s.length)) a' w' := by
  cases copE_inv hc with
  | cvs src dst e x' _ ho hs hdst he hx =>
    have hr := (ev_rel h.slots hx hp).str_inv
    have hbs : (⟨s.toArray⟩ : ByteArray).size = s.length := List.size_toArray
    have hcap : s.length ≤ grownCap w s.length 0 e := by
      unfold grownCap
      simp only [Question.cut]
      omega
    have hrow : bytesRow ⟨s.toArray⟩ (grownCap w s.length 0 e) = bytesV s (grownCap w s.length 0 e - s.length) := by
      apply Array.toList_inj.1
      simp [bytesV, bytesRow, hbs]
    generalize hcp : grownCap w s.length 0 e = cap at hcap hrow
    rw [← bytesP_len s]
    have hsz : (bytesV s (cap - s.length)).size = cap := by rw [bytesV_size]; omega
    have hrun : (execOp a.eval o).run P w = .ok (.value (.slice (some ⟨w.heap.size, 0, none⟩) (bytesP s).length cap)) (w.drew.alloc (.cells (bytesV s (cap - s.length)) e (cap, cap + 1))) := by
      have h1 := run_bytes_of_string (P := P) w src dst e ⟨s.toArray⟩ hs hdst he
      rw [hbs, hcp, hrow, hsz] at h1
      simp only [execOp, ho, hr, bytesP_len]
      rw [Sem.run_bind, h1]
      rfl
    refine row_done hd h (Nat.one_pos) (fun p hp => by
      obtain ⟨b, _, rfl⟩ := List.mem_map.1 hp
      exact ⟨rfl, fun q hq => by simp [PV.cells] at hq; subst hq; rfl⟩) t ht (fun j hj hf => by rw [hsz] at hj; simp only at hf; omega) (by rw [bytesP_len]; omega) (by rw [hsz]; omega) (fun i y j q hi hj => ?_) (.inl rfl) hrun
    unfold bytesP at hi
    rw [List.getElem?_map] at hi
    obtain ⟨b, hb, rfl⟩ := Option.map_eq_some_iff.1 hi
    cases j with
    | succ j => simp [PV.cells] at hj
    | zero =>
      simp [PV.cells] at hj
      subst hj
      refine ⟨.int .u8 (b.toNat : Int), ?_, .int _ _⟩
      obtain ⟨hlt, _⟩ := List.getElem?_eq_some_iff.1 hb
      simp only [bytesV, Nat.mul_one, Nat.add_zero, List.getElem?_toArray]
      rw [List.getElem?_append_left (by simpa using hlt), List.getElem?_map, hb]
      rfl

end
end Go.Vd
