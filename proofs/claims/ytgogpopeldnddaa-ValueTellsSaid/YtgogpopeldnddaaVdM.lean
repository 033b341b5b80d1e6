/- Zeros; a store into a row that is owned. -/
import Derived.Test.YtgogpopeldnddaaVdL
set_option linter.unusedVariables false
set_option linter.unusedSimpArgs false
namespace Go.Vd
open Go.RowKit

/-- Cells stored one behind the other into one block. -/
theorem storeCells_run {P : Program} (g : Nat) (ety : TypeId) (fz : Nat × Nat) : ∀ (vs : List Value) (o i : Nat) (w : World) (arr : Array Value), w.heap[g]? = some (.cells arr ety fz) → o + i + vs.length ≤ arr.size →
    (∀ j, o + i ≤ j → j < o + i + vs.length → ¬ (fz.1 ≤ j ∧ j < fz.2)) → (∀ v ∈ vs, v.oneCell' = true) →
    ∃ w' arr', (storeCells ⟨g, o, none⟩ vs i).run P w = .ok () w' ∧ Fr (fun b => b = g) w w' ∧ w'.heap.size = w.heap.size ∧ w'.heap[g]? = some (.cells arr' ety fz) ∧ arr'.size = arr.size ∧
      (∀ j, arr'[j]? = if o + i ≤ j ∧ j < o + i + vs.length then vs[j - (o + i)]? else arr[j]?)
  | [], o, i, w, arr, hg, _, _, _ => ⟨w, arr, rfl, Fr.refl _ _, rfl, hg, rfl, fun j => by
      have : ¬ (o + i ≤ j ∧ j < o + i + ([] : List Value).length) := by simp
      rw [if_neg this]⟩
  | v :: vs, o, i, w, arr, hg, hle, hfz, hone => by
    simp only [List.length_cons] at hle
    have hv := hone v (by simp)
    have hcell : w.cell? ⟨g, o + i, none⟩ = some (arr[o + i]'(by omega)) := by
      simp [World.cell?, hg, Array.getElem?_eq_getElem (show o + i < arr.size by omega)]
    have hfr : w.frozen? ⟨g, o + i, none⟩ = false := by
      have := hfz (o + i) (Nat.le_refl _) (by simp)
      simp only [World.frozen?, hg]
      simpa using this
    have hst : (store ((⟨g, o, none⟩ : Addr).add i) v).run P w = .ok () (w.setCell ⟨g, o + i, none⟩ v) := by
      rw [Addr.add_lit, run_store P w _ v _ hv, hcell]
      simp [hfr]
    have hg' : (w.setCell ⟨g, o + i, none⟩ v).heap[g]? = some (.cells (arr.setIfInBounds (o + i) v) ety fz) := by
      simp only [World.setCell, Array.getElem?_modify, if_pos rfl, hg]
      rfl
    obtain ⟨w', arr', h1, h2, h3, h4, h5, h6⟩ := storeCells_run (P := P) g ety fz vs o (i + 1) (w.setCell ⟨g, o + i, none⟩ v) (arr.setIfInBounds (o + i) v) hg' (by simp; omega)
      (fun j hj1 hj2 => hfz j (by omega) (by simp; omega)) (fun u hu => hone u (by simp [hu]))
    refine ⟨w', arr', ?_, ?_, by rw [h3]; simp [World.setCell], h4, by rw [h5]; simp, fun j => ?_⟩
    · simp only [storeCells, Sem.run_bind, hst, Result.andThen_ok]
      exact h1
    · refine Fr.trans (L := fun b => b = g) (b := w.setCell ⟨g, o + i, none⟩ v) ⟨rfl, rfl, rfl, by simp [World.setCell], fun b hb hne => Below.heap_setCell _ _ _ _ hne⟩ h2 (fun _ _ h => h)
    · rw [h6]
      by_cases hj : j = o + i
      · subst hj
        rw [if_neg (by omega), if_pos (by simp)]
        simp [show o + i < arr.size by omega]
      · by_cases hj2 : o + (i + 1) ≤ j ∧ j < o + (i + 1) + vs.length
        · rw [if_pos hj2, if_pos (by simp; omega)]
          rw [show j - (o + i) = (j - (o + (i + 1))) + 1 by omega]
          rfl
        · rw [if_neg hj2, if_neg (by simp; omega)]
          rw [Array.getElem?_setIfInBounds_ne (by omega)]

section
variable {w0 w : World} {O : Nat → Prop} {L : Lent} {n : Nat} {μ : Mu} {R : Rows} {P : Program} {st : St} {a : Act}

theorem mks_done {o : Oper} {sz bytes : Nat} {z : PV} {x : Opd} (hc : copE P o = some (.mks sz bytes z x)) (hd : ∀ d, o.dst = some d → d < n) (h : StRel w0 O L n μ st a w) {k : IntKind} {m : Nat}
    (hp : x.ev st.s = some (.int k (m : Int))) (hb : bytes * m ≤ 281474976710656) (hm : m ≤ 9223372036854775807) (hzf : z.free = true) (t : Nat) (ht : st.r t = none) :
    ∃ a' w', Done P o a w a' w' ∧ ∃ μ', StRel w0 O L n μ' (St.put ⟨st.s, upd st.r t (some ⟨sz, true, List.replicate m z⟩)⟩ o.dst (.slr t 0 m)) a' w' := by
  cases copE_inv hc with
  | mks t' e l c i _ _ ho htt hi hz hl hcc =>
    obtain ⟨i', zv, hi', hzv, hzr, hzl, hzp, hzo⟩ := czero_spec hz
    rw [hi] at hi'
    cases hi'
    have h1 := (ev_rel h.slots hl hp).int_inv
    have h2 := (ev_rel h.slots hcc hp).int_inv
    obtain ⟨vs, hv1, hv2, hv3⟩ := (Rel.base (μ := μ) (R := st.r) _ _ (hzr w (Av O μ st.r))).cells
    have hzs : zv.cells.size = i.size := by rw [hv1]; simp; omega
    have hrun : (execOp a.eval o).run P w = .ok (.value (.slice (some ⟨w.heap.size, 0, none⟩) m m)) (w.alloc (.cells ((Array.range (m * i.size)).map fun j => zv.cells[j % zv.cells.size]!) e)) := by
      simp only [execOp, ho, h1, h2]
      have hw64 : IntKind.i64.wrap (m : Int) = m := by unfold IntKind.wrap; simp [IntKind.bits, IntKind.signed]; omega
      have hbz : ((i.bytes : Int) * (m : Int)) ≤ 281474976710656 := by
        have : ((i.bytes * m : Nat) : Int) ≤ 281474976710656 := by omega
        rwa [Int.natCast_mul] at this
      have hzero : (zeroValue e).run P w = .ok zv w := by simp [zeroValue, typeInfo, hi, hzv]
      unfold Instr.makeSlice
      simp only [Sem.run_bind, run_underlying htt, Result.andThen_ok, asInt, asIntOf, Sem.run_pure, run_typeInfo' hi, hw64]
      have hcond : (((decide ((m : Int) < 0) || decide ((i.bytes : Int) * (m : Int) > 2 ^ 48)) || decide ((m : Int) < 0)) || decide ((m : Int) > (m : Int))) = false := by
        simp
        omega
      rw [hcond]
      simp only [Bool.false_eq_true, if_false, Sem.run_bind, run_askRoom, Result.andThen_ok, Int.toNat_natCast, run_szT (show szT P e = some i.size by simp [szT, hi])]
      by_cases h0 : m * i.size = 0
      · rw [if_pos h0]
        simp only [newRow, Sem.run_pure, Result.andThen_ok, Sem.run_bind, run_newObj, World.alloc_eq, h0]
        rw [Array.range_zero']
        simp
      · rw [if_neg h0]
        simp [hzero, newRow]
    have hmr : (List.replicate m z).length = m := by simp
    have := row_done (P := P) (o := o) hd h (ps := List.replicate m z) (sz := i.size) hzp (fun p hp => by
      rw [(List.mem_replicate.1 hp).2]; exact ⟨hzl, hzo⟩) t ht (arr := (Array.range (m * i.size)).map fun j => zv.cells[j % zv.cells.size]!) (e := e) (fz := (0, 0)) (fun j _ hj => by simp at hj) (c := m) (by simp) (by simp) (fun k' y j q hk hj => by
        obtain ⟨hlt, hky⟩ := List.getElem?_eq_some_iff.1 hk
        have hlt' : k' < m := by simpa using hlt
        have hy : y = z := by rw [← hky]; simp
        subst hy
        obtain ⟨hjl, _⟩ := List.getElem?_eq_some_iff.1 hj
        have hu : vs[j]? = some (vs[j]'(by omega)) := List.getElem?_eq_getElem (by omega)
        refine ⟨vs[j]'(by omega), ?_, (hv3 j q _ hj hu).free (PV.free_cells hzf q (List.mem_of_getElem? hj))⟩
        have hidx : k' * i.size + j < m * i.size := by
          have : (k' + 1) * i.size ≤ m * i.size := Nat.mul_le_mul_right _ hlt'
          rw [Nat.add_mul] at this
          omega
        have hmod : (k' * i.size + j) % zv.cells.size = j := by
          rw [hzs, Nat.add_comm, Nat.add_mul_mod_self_right]
          exact Nat.mod_eq_of_lt (by omega)
        rw [Array.getElem?_map, Array.getElem?_range, if_pos hidx]
        simp only [Option.map_some, hmod]
        congr 1
        rw [hv1]
        simp [show j < vs.length by omega]) (.inr rfl) (by rw [hmr]; exact hrun)
    rw [hmr] at this
    exact this

/-- An element with some of its cells written anew. -/
def spl (y : PV) (o : Nat) (cs : List PV) : PV :=
  match y with
  | .agg ys => .agg (ys.take o ++ cs ++ ys.drop (o + cs.length))
  | _ => cs.headD .any

theorem spl_cells {y : PV} {o : Nat} {cs : List PV} (h : o + cs.length ≤ y.cells.length) (h0 : 0 < cs.length) (hone : ∀ q ∈ cs, q.one = true) : (spl y o cs).cells = y.cells.take o ++ cs ++ y.cells.drop (o + cs.length) := by
  by_cases hy : ∃ ys, y = .agg ys
  · obtain ⟨ys, rfl⟩ := hy
    rfl
  · have h1 : y.cells = [y] := by cases y <;> first | rfl | exact absurd ⟨_, rfl⟩ hy
    rw [h1] at h ⊢
    simp only [List.length_singleton] at h
    have ho : o = 0 := by omega
    subst ho
    match cs, h, h0 with
    | [c], _, _ =>
      have hc := hone c (by simp)
      have : spl y 0 [c] = c := by cases y <;> first | rfl | exact absurd ⟨_, rfl⟩ hy
      rw [this]
      cases c <;> simp_all [PV.cells, PV.one]

theorem store_done {o : Oper} {sz : Nat} {p q : Opd} (hc : copE P o = some (.store sz p q)) (hd : ∀ d, o.dst = some d → d < n) (h : StRel w0 O L n μ st a w) {t i off : Nat} {row : Row} {x y : PV}
    (hp : p.ev st.s = some (.ptr t i off)) (hq : q.ev st.s = some x) (ht : st.r t = some row) (hi : row.cs[i]? = some y) (hx : x.cells.length = sz) (h0 : 0 < sz) (hone : ∀ c ∈ x.cells, c.one = true)
    (hfit : off + sz ≤ row.sz) (hpr : row.pr = true → x.free = true) :
    ∃ a' w', Done P o a w a' w' ∧ ∃ μ', StRel w0 O L n μ' (St.put ⟨st.s, upd st.r t (some ⟨row.sz, row.pr, row.cs.set i (spl y off x.cells)⟩)⟩ o.dst .undef) a' w' := by
  cases copE_inv hc with
  | store ty a' x' _ _ _ ho hsz hpa hqa =>
    have hpr' := ev_rel h.slots hpa hp
    have hqr := ev_rel h.slots hqa hq
    have hloc : ∃ l, μ t = some l ∧ a.eval a' = .pointer (some ⟨l.b, l.base + (i * row.sz + off), none⟩) ∧ i < row.cs.length := by
      generalize a.eval a' = u at hpr'
      cases hpr' with
      | base _ _ h' => cases h'
      | ptr _ _ _ row' l hr' hm hil ho =>
        rw [ht] at hr'
        cases hr'
        exact ⟨l, hm, rfl, hil⟩
    obtain ⟨l, hl, hea, hil⟩ := hloc
    have hrr := h.rows t row ht
    obtain ⟨arr, ety, fz, g1, g2, g3, g4, g5⟩ := hrr.lie l hl
    obtain ⟨vs, hv1, hv2, hv3⟩ := hqr.cells
    have hy := hrr.el y (List.mem_of_getElem? hi)
    have hend : i * row.sz + off + sz ≤ l.room := by
      have : (i + 1) * row.sz ≤ row.cs.length * row.sz := Nat.mul_le_mul_right _ hil
      rw [Nat.add_mul] at this
      omega
    have hvs : vs.length = sz := by omega
    obtain ⟨w', arr', s1, s2, s3, s4, s5, s6⟩ := storeCells_run (P := P) l.b ety fz vs (l.base + (i * row.sz + off)) 0 w arr g1 (by omega) (fun j hj1 hj2 => g4 j (by omega) (by omega)) (fun v hv => by
      obtain ⟨j, hj⟩ := List.getElem?_of_mem hv
      obtain ⟨hlt, _⟩ := List.getElem?_eq_some_iff.1 hj
      have hxj : x.cells[j]? = some (x.cells[j]'(by omega)) := List.getElem?_eq_getElem (by omega)
      exact (hv3 j _ v hxj hj).oneCell (hone _ (List.mem_of_getElem? hxj)))
    have hrun : (execOp a.eval o).run P w = .ok .skip w' := by
      simp only [execOp, ho]
      have : (Instr.storeAt ty (a.eval a') (a.eval x')).run P w = .ok () w' := by
        unfold Instr.storeAt
        rw [hea]
        simp only [Instr.sureAddr, Sem.run_bind, Sem.run_pure, Result.andThen_ok, storeVar, run_szT hsz]
        rw [hv1]
        simp only [List.size_toArray, hvs, ne_eq, not_true_eq_false, if_false]
        exact s1
      simp [this]
    have hspl := spl_cells (y := y) (o := off) (cs := x.cells) (by omega) (by omega) hone
    have hsl : (spl y off x.cells).cells.length = row.sz := by rw [hspl]; simp; omega
    have hw := h.write ht hl s2 ⟨row.sz, row.pr, row.cs.set i (spl y off x.cells)⟩ rfl (by simp) (fun z hz => by
      rcases List.mem_or_eq_of_mem_set hz with hz | rfl
      · exact hrr.el z hz
      · refine ⟨hsl, fun c hcm => ?_⟩
        rw [hspl] at hcm
        rcases List.mem_append.1 hcm with hcm | hcm
        · rcases List.mem_append.1 hcm with hcm | hcm
          · exact hy.2 c (List.mem_of_mem_take hcm)
          · exact hone c hcm
        · exact hy.2 c (List.mem_of_mem_drop hcm)) ⟨arr', ety, fz, s4, by omega, g4, fun i' z j c hi' hj => by
        rw [s6]
        obtain ⟨hjl, _⟩ := List.getElem?_eq_some_iff.1 hj
        by_cases hii : i' = i
        · subst hii
          simp only [List.getElem?_set_self hil, Option.some.injEq] at hi'
          subst hi'
          rw [hsl] at hjl
          rw [hspl] at hj
          have l1 : (y.cells.take off).length = off := by simp; omega
          rw [List.append_assoc] at hj
          by_cases hj1 : j < off
          · rw [List.getElem?_append_left (by omega), List.getElem?_take, if_pos hj1] at hj
            rw [if_neg (by omega)]
            exact g5 i' y j c hi hj
          · rw [List.getElem?_append_right (by omega), l1] at hj
            by_cases hj2 : j - off < sz
            · rw [List.getElem?_append_left (by omega)] at hj
              rw [if_pos (by omega)]
              have hu : vs[j - off]? = some (vs[j - off]'(by omega)) := List.getElem?_eq_getElem (by omega)
              refine ⟨vs[j - off]'(by omega), ?_, ?_⟩
              · rw [← hu]
                congr 1
                omega
              · have hr := hv3 _ c _ hj hu
                unfold CellRel
                split
                · rename_i hprt
                  exact hr.free (PV.free_cells (hpr hprt) c (List.mem_of_getElem? hj))
                · exact hr
            · rw [List.getElem?_append_right (by omega), List.getElem?_drop] at hj
              rw [if_neg (by omega)]
              rw [show off + x.cells.length + (j - off - x.cells.length) = j by omega] at hj
              exact g5 i' y j c hi hj
        · rw [List.getElem?_set_ne (Ne.symm hii)] at hi'
          have hz := hrr.el z (List.mem_of_getElem? hi')
          rw [if_neg ?_]
          · exact g5 i' z j c hi' hj
          · intro hcon
            rcases Nat.lt_or_gt_of_ne hii with hlt | hgt
            · have : (i' + 1) * row.sz ≤ i * row.sz := Nat.mul_le_mul_right _ hlt
              rw [Nat.add_mul] at this
              omega
            · have : (i + 1) * row.sz ≤ i' * row.sz := Nat.mul_le_mul_right _ hgt
              rw [Nat.add_mul] at this
              omega⟩
    exact ⟨_, w', .inr ⟨hrun, rfl⟩, μ, hw.put o.dst hd (.base _ _ .undef)⟩

end
end Go.Vd
