/- The operations that make or write memory: what they were compiled from; a variable, a literal, bytes of a text, zeros. -/
import Derived.Test.YtgogpopeldnddaaVdJ
set_option linter.unusedVariables false
set_option linter.unusedSimpArgs false
namespace Go.Vd
open Go.RowKit

inductive CopE (P : Program) (o : Oper) : IOp → Prop
  | alloc (e : TypeId) (p : PV) (ho : o.op = .alloc e) (hz : czero P e = some p) : CopE P o (.box (.c p))
  | box (e : TypeId) (y : Operand) (x : Opd) (ho : o.op = .box e y) (hx : copd y = some x) : CopE P o (.box x)
  | bsl (t e : TypeId) (m : Nat) (parts : Array (Nat × Operand)) (sz : Nat) (z : PV) (xs : List Opd) (ho : o.op = .buildSlice t m parts) (ht : P.underlying t = some (.slice e)) (hsz : szT P e = some sz)
      (hz : czero P e = some z) (hm : m = parts.size) (hp : parts.toList.map (·.1) = List.range m) (hb : m * sz ≤ 16777216) (h0 : 0 < m) (hx : copds (parts.toList.map (·.2)) = some xs) : CopE P o (.bsl sz xs)
  | mks (t e : TypeId) (l c : Operand) (i : TypeInfo) (z : PV) (x : Opd) (ho : o.op = .makeSlice t l c) (ht : P.underlying t = some (.slice e)) (hi : P.info? e = some i) (hz : czero P e = some z)
      (hl : copd l = some x) (hc : copd c = some x) : CopE P o (.mks i.size i.bytes z x)
  | store (t : TypeId) (a' x' : Operand) (sz : Nat) (p q : Opd) (ho : o.op = .store t a' x') (hsz : szT P t = some sz) (ha : copd a' = some p) (hx : copd x' = some q) : CopE P o (.store sz p q)
  | cvs (src dst e : TypeId) (x : Operand) (y : Opd) (ho : o.op = .convert src dst x) (hs : P.underlying src = some .string) (hd : P.underlying dst = some (.slice e)) (he : P.underlying e = some (.int .u8)) (hx : copd x = some y) : CopE P o (.cvs y)
  | call (c : Call) (f : FuncId) (xs : List Opd) (ho : o.op = .call c) (hc : c.callee = .value (.func f)) (hf : okFunc P f = true) (hx : copds c.args.toList = some xs) : CopE P o (.call f xs)
  | calv (c : Call) (g : Operand) (f : Opd) (xs : List Opd) (ho : o.op = .call c) (hc : c.callee = .value g) (hg : copd g = some f) (hx : copds c.args.toList = some xs) : CopE P o (.calv f xs)
  | app (c : Call) (x y : Operand) (t u e e' : TypeId) (i : TypeInfo) (z : Value) (p q : Opd) (ho : o.op = .call c) (hc : c.callee = .builtin .append) (ha : c.args.toList = [x, y]) (hat : c.argTypes.toList = [t, u])
      (ht : P.underlying t = some (.slice e)) (hu : P.underlying u = some (.slice e')) (hi : P.info? e = some i) (hz : i.zero = some z) (hzs : z.cells.size = i.size) (h0 : 0 < i.size) (hb : i.bytes ≤ 281474976710656)
      (hx : copd x = some p) (hy : copd y = some q) : CopE P o (.app i.size i.bytes p q)
  | aps (c : Call) (x y : Operand) (t u e : TypeId) (i : TypeInfo) (z : Value) (p q : Opd) (ho : o.op = .call c) (hc : c.callee = .builtin .append) (ha : c.args.toList = [x, y]) (hat : c.argTypes.toList = [t, u])
      (ht : P.underlying t = some (.slice e)) (hu : P.underlying u = some .string) (hi : P.info? e = some i) (hz : i.zero = some z) (hzs : z.cells.size = i.size) (h0 : i.size = 1) (hb : i.bytes = 1)
      (hx : copd x = some p) (hy : copd y = some q) : CopE P o (.aps p q)

theorem copE_inv {P : Program} {o : Oper} {io : IOp} (h : copE P o = some io) : CopE P o io := by
  unfold copE at h
  cases ho : o.op <;> simp only [ho] at h <;> try cases h
  case alloc e =>
    obtain ⟨p, hz, rfl⟩ := Option.map_eq_some_iff.1 h
    exact .alloc e p ho hz
  case box e y =>
    obtain ⟨x, hx, rfl⟩ := c1_inv h
    exact .box e y x ho hx
  case buildSlice t m parts =>
    cases ht : P.underlying t with
    | none => simp [ht] at h
    | some d =>
      cases d <;> simp only [ht] at h <;> try cases h
      rename_i e
      cases hsz : szT P e with
      | none => simp [hsz] at h
      | some sz =>
        cases hz : czero P e with
        | none => simp [hsz, hz] at h
        | some z =>
          simp only [hsz, hz] at h
          split at h
          · rename_i hc
            obtain ⟨xs, hx, rfl⟩ := Option.map_eq_some_iff.1 h
            exact .bsl t e m parts sz z xs ho ht hsz hz hc.1 hc.2.1 hc.2.2.1 hc.2.2.2 hx
          · cases h
  case makeSlice t l c =>
    cases ht : P.underlying t with
    | none => simp [ht] at h
    | some d =>
      cases d <;> simp only [ht] at h <;> try cases h
      rename_i e
      cases hi : P.info? e with
      | none => simp [hi] at h
      | some i =>
        cases hz : czero P e with
        | none => simp [hi, hz] at h
        | some z =>
          cases hl : copd l with
          | none => simp [hi, hz, hl] at h
          | some x =>
            cases hc : copd c with
            | none => simp [hi, hz, hl, hc] at h
            | some y =>
              simp only [hi, hz, hl, hc] at h
              obtain ⟨rfl, rfl⟩ := cmks_inv h
              exact .mks t e l c i z x ho ht hi hz hl hc
  case store t a' x' =>
    obtain ⟨sz, hsz, h⟩ := Option.bind_eq_some_iff.1 h
    obtain ⟨p, q, hp, hq, rfl⟩ := c2_inv h
    exact .store t a' x' sz p q ho hsz hp hq
  case convert src dst x =>
    cases hs : P.underlying src with
    | none => simp [hs] at h
    | some d1 =>
      cases hd : P.underlying dst with
      | none => cases d1 <;> simp [hs, hd] at h
      | some d2 =>
        cases d1 <;> cases d2 <;> simp only [hs, hd] at h <;> try cases h
        case string.slice e =>
          split at h
          · rename_i he
            obtain ⟨y, hy, rfl⟩ := c1_inv h
            exact .cvs src dst e x y ho hs hd (isU8T_spec he) hy
          · cases h
  case call c =>
    unfold ccallE at h
    cases hc : c.callee <;> simp only [hc] at h <;> try cases h
    case value g =>
      have gen : ∀ {f : Opd} {xs : List Opd}, copd g = some f → copds c.args.toList = some xs → CopE P o (.calv f xs) := fun hg hx => .calv c g _ _ ho hc hg hx
      cases g <;> simp only at h
      case func f =>
        split at h
        · rename_i hf
          obtain ⟨xs, hx, rfl⟩ := Option.map_eq_some_iff.1 h
          exact .call c f xs ho hc hf hx
        · cases h
      all_goals
        split at h
        · cases h; exact gen (by assumption) (by assumption)
        · cases h
    case builtin b =>
      cases b <;> simp only at h <;> try cases h
      case append =>
        split at h
        · rename_i x y t u ha hat
          split at h
          · rename_i e e' ht hu
            cases hi : P.info? e with
            | none => simp [hi] at h
            | some i =>
              cases hz : i.zero with
              | none => simp [hi, hz] at h
              | some z =>
                simp only [hi, hz] at h
                split at h
                · rename_i hcond
                  obtain ⟨p, q, hp, hq, rfl⟩ := c2_inv h
                  exact .app c x y t u e e' i z p q ho hc ha hat ht hu hi hz hcond.1 hcond.2.1 hcond.2.2 hp hq
                · cases h
          · rename_i e ht hu
            cases hi : P.info? e with
            | none => simp [hi] at h
            | some i =>
              cases hz : i.zero with
              | none => simp [hi, hz] at h
              | some z =>
                simp only [hi, hz] at h
                split at h
                · rename_i hcond
                  obtain ⟨p, q, hp, hq, rfl⟩ := c2_inv h
                  exact .aps c x y t u e i z p q ho hc ha hat ht hu hi hz hcond.1 hcond.2.1 hcond.2.2 hp hq
                · cases h
          · cases h
        · cases h

section
variable {w0 w : World} {O : Nat → Prop} {L : Lent} {n : Nat} {μ : Mu} {R : Rows} {P : Program} {st : St} {a : Act}

/-- Values that name no owned row. -/
def PV.free (p : PV) : Bool := p.tk fun _ => false

theorem Rel.free {w : World} {O : Nat → Prop} {μ : Mu} {R : Rows} {p : PV} {v : Value} (h : Rel w O μ R p v) (hf : p.tk (fun _ => false) = true) : Rel0 w O p v := by
  induction h with
  | base p v h => exact h
  | slr t lo n c row l hr hm hn hc hroom => simp [PV.tk] at hf
  | slr0 t lo row A hr hn => simp [PV.tk] at hf
  | ptr t i off row l hr hm hi ho => simp [PV.tk] at hf
  | clo g caps vs hl h ih => exact .clo g caps vs hl fun j p v hj hv => ih j p v hj hv (PV.tks_mem (by simpa [PV.tk] using hf) p (List.mem_of_getElem? hj))
  | agg cs vs hl hs h ih => exact .agg cs vs hl hs fun j p v hj hv => ih j p v hj hv (PV.tks_mem (by simpa [PV.tk] using hf) p (List.mem_of_getElem? hj))
  | tup cs vs hl h ih => exact .tup cs vs hl fun j p v hj hv => ih j p v hj hv (PV.tks_mem (by simpa [PV.tk] using hf) p (List.mem_of_getElem? hj))

theorem PV.free_cells {p : PV} (h : p.free = true) : ∀ q ∈ p.cells, q.tk (fun _ => false) = true := PV.tk_of_tks h

/-- One operation, done. -/
def Done (P : Program) (o : Oper) (a : Act) (w : World) (a' : Act) (w' : World) : Prop :=
  (∃ v, (execOp a.eval o).run P w = .ok (.value v) w' ∧ a' = a.put o.dst v) ∨ ((execOp a.eval o).run P w = .ok .skip w' ∧ a' = a.put o.dst undef)

theorem StRel.slots (h : StRel w0 O L n μ st a w) : SlotsLie w (Av O μ st.r) μ st.r st.s a := h.slot
theorem StRel.rows (h : StRel w0 O L n μ st a w) : RowsLie w (Av O μ st.r) μ st.r := h.row

theorem pop_done {o : Oper} {io : IOp} (hc : cop P o = some io) (hd : ∀ d, o.dst = some d → d < n) (h : StRel w0 O L n μ st a w) {p : PV} (hp : pop st.s st.r io = some p) :
    ∃ a' w', Done P o a w a' w' ∧ ∃ μ', StRel w0 O L n μ' (st.put o.dst p) a' w' := by
  obtain ⟨v, hv, hr⟩ := cop_pop_sound hc h.slots h.rows hp
  exact ⟨_, w, .inl ⟨v, hv, rfl⟩, μ, h.put o.dst hd hr⟩

/-- Cells of values, one behind the other. -/
theorem elems_cells {ps : List PV} {us : List Value} (h : CellsRel w O μ R ps us) {sz : Nat} (hs : ∀ p ∈ ps, p.cells.length = sz) (hf : ∀ p ∈ ps, p.free = true) :
    (us.flatMap fun u => u.cells.toList).length = ps.length * sz ∧ ∀ (i : Nat) (x : PV) (j : Nat) (q : PV), ps[i]? = some x → x.cells[j]? = some q →
      ∃ v, (us.flatMap fun u => u.cells.toList)[i * sz + j]? = some v ∧ Rel0 w O q v := by
  induction ps generalizing us with
  | nil =>
    cases us with
    | nil => exact ⟨by simp, fun i x j q hi => by simp at hi⟩
    | cons => exact absurd h.len (by simp)
  | cons p ps ih =>
    cases us with
    | nil => exact absurd h.len (by simp)
    | cons u us =>
      have hr := h.rel 0 p u rfl rfl
      obtain ⟨vs, h1, h2, h3⟩ := hr.cells
      have hp := hs p (by simp)
      obtain ⟨e1, e2⟩ := ih (us := us) ⟨by simpa using h.len, fun j p' u' hj hu => h.rel (j + 1) p' u' (by simpa using hj) (by simpa using hu)⟩ (fun p hp => hs p (by simp [hp])) (fun p hp => hf p (by simp [hp]))
      have hul : u.cells.toList.length = sz := by rw [h1]; simp; omega
      refine ⟨?_, fun i x j q hi hj => ?_⟩
      · rw [List.flatMap_cons, List.length_append, hul, e1, List.length_cons, Nat.add_mul]; omega
      · rw [List.flatMap_cons]
        cases i with
        | zero =>
          simp at hi
          subst hi
          obtain ⟨hlt, _⟩ := List.getElem?_eq_some_iff.1 hj
          have hv : vs[j]? = some (vs[j]'(by omega)) := List.getElem?_eq_getElem (by omega)
          refine ⟨vs[j]'(by omega), ?_, (h3 j q _ hj hv).free (PV.free_cells (hf p (by simp)) q (List.mem_of_getElem? hj))⟩
          rw [Nat.zero_mul, Nat.zero_add, List.getElem?_append_left (by omega), h1]
          exact hv
        | succ i =>
          obtain ⟨v, hv, hrel⟩ := e2 i x j q (by simpa using hi) hj
          refine ⟨v, ?_, hrel⟩
          rw [List.getElem?_append_right (by rw [hul, Nat.add_mul]; omega), hul, ← hv]
          congr 1
          rw [Nat.add_mul]
          omega

theorem one_elem {p : PV} {v : Value} (hv : Rel w O μ R p v) : ∀ (i : Nat) (x : PV) (j : Nat) (q : PV), [p][i]? = some x → x.cells[j]? = some q →
    ∃ u, v.cells[i * p.cells.length + j]? = some u ∧ CellRel w O μ R false q u := by
  intro i x j q hi hj
  cases i with
  | succ i => simp at hi
  | zero =>
    simp at hi
    subst hi
    obtain ⟨vs, h1, h2, h3⟩ := hv.cells
    obtain ⟨hlt, _⟩ := List.getElem?_eq_some_iff.1 hj
    have hu : vs[j]? = some (vs[j]'(by omega)) := List.getElem?_eq_getElem (by omega)
    exact ⟨vs[j]'(by omega), by rw [h1]; simp, h3 j q _ hj hu⟩

theorem box_done {o : Oper} {x : Opd} (hc : copE P o = some (.box x)) (hd : ∀ d, o.dst = some d → d < n) (h : StRel w0 O L n μ st a w) {p : PV} (hp : x.ev st.s = some p) (hpos : 0 < p.cells.length)
    (hone : ∀ q ∈ p.cells, q.one = true) (t : Nat) (ht : st.r t = none) :
    ∃ a' w', Done P o a w a' w' ∧ ∃ μ', StRel w0 O L n μ' (St.put ⟨st.s, upd st.r t (some ⟨p.cells.length, false, [p]⟩)⟩ o.dst (.ptr t 0 0)) a' w' := by
  have key : ∀ (e : TypeId) (v : Value), Rel w (Av O μ st.r) μ st.r p v → (execOp a.eval o).run P w = .ok (.value (.pointer (some ⟨w.heap.size, 0, none⟩))) (w.alloc (.cells v.cells e)) →
      ∃ a' w', Done P o a w a' w' ∧ ∃ μ', StRel w0 O L n μ' (St.put ⟨st.s, upd st.r t (some ⟨p.cells.length, false, [p]⟩)⟩ o.dst (.ptr t 0 0)) a' w' := by
    intro e v hv hrun
    obtain ⟨vs, hv1, hv2, hv3⟩ := hv.cells
    have h' := h.alloc t ht ⟨p.cells.length, false, [p]⟩ v.cells e (0, 0) hpos (fun q hq => by simp at hq; subst hq; exact ⟨rfl, hone⟩) (by rw [hv1]; simp [hv2]) (fun j _ hj => by simp at hj)
      (one_elem hv)
    refine ⟨_, _, .inl ⟨_, hrun, rfl⟩, _, h'.put o.dst hd ?_⟩
    have := Rel.ptr (w := w.alloc (.cells v.cells e)) (O := Av O (upd μ t (some ⟨w.heap.size, 0, v.cells.size⟩)) (upd st.r t (some ⟨p.cells.length, false, [p]⟩))) (μ := upd μ t (some ⟨w.heap.size, 0, v.cells.size⟩))
      (R := upd st.r t (some ⟨p.cells.length, false, [p]⟩)) t 0 0 ⟨p.cells.length, false, [p]⟩ ⟨w.heap.size, 0, v.cells.size⟩ (upd_same _ _ _) (upd_same _ _ _) (by simp) hpos
    simpa using this
  cases copE_inv hc with
  | alloc e p' ho hz =>
    cases hp
    obtain ⟨i, z, hi, hzv, hzr, _, _, _⟩ := czero_spec hz
    refine key e z (.base _ _ (hzr w _)) ?_
    simp only [execOp, ho]
    simp [Instr.alloc, zeroValue, typeInfo, hi, hzv, newVar, newRow]
  | box e y _ ho hx =>
    refine key e (a.eval y) (ev_rel h.slots hx hp) ?_
    simp only [execOp, ho]
    simp [Instr.box, newVar, newRow]

/-- A new row of elements, and the slice of all of it. -/
theorem row_done {o : Oper} (hd : ∀ d, o.dst = some d → d < n) (h : StRel w0 O L n μ st a w) {ps : List PV} {sz : Nat} (hsz : 0 < sz) (hel : ∀ p ∈ ps, p.cells.length = sz ∧ ∀ q ∈ p.cells, q.one = true)
    (t : Nat) (ht : st.r t = none) {arr : Array Value} {e : TypeId} {fz : Nat × Nat} (hfz : ∀ j, j < arr.size → ¬ (fz.1 ≤ j ∧ j < fz.2)) {c : Nat} (hc : ps.length ≤ c) (hroom : c * sz ≤ arr.size)
    (hcells : ∀ (i : Nat) (x : PV) (j : Nat) (q : PV), ps[i]? = some x → x.cells[j]? = some q → ∃ v, arr[i * sz + j]? = some v ∧ Rel0 w (Av O μ st.r) q v) {w1 : World} (hw1 : w1 = w.drew ∨ w1 = w)
    (hrun : (execOp a.eval o).run P w = .ok (.value (.slice (some ⟨w.heap.size, 0, none⟩) ps.length c)) (w1.alloc (.cells arr e fz))) :
    ∃ a' w', Done P o a w a' w' ∧ ∃ μ', StRel w0 O L n μ' (St.put ⟨st.s, upd st.r t (some ⟨sz, true, ps⟩)⟩ o.dst (.slr t 0 ps.length)) a' w' := by
  have hs1 : w1.heap = w.heap := by rcases hw1 with rfl | rfl <;> rfl
  have h1 : StRel w0 O L n μ st a w1 := by
    rcases hw1 with rfl | rfl
    · exact h.drew
    · exact h
  have h' := h1.alloc t ht ⟨sz, true, ps⟩ arr e fz hsz hel (Nat.le_trans (Nat.mul_le_mul_right _ hc) hroom) hfz (fun i x j q hi hj => by
    obtain ⟨v, hv, hr⟩ := hcells i x j q hi hj
    exact ⟨v, hv, by unfold CellRel; rw [if_pos rfl]; exact hr.frame (fun b _ _ => by rw [hs1]) (fun _ _ h => h)⟩)
  rw [show w1.heap.size = w.heap.size by rw [hs1]] at h'
  refine ⟨_, _, .inl ⟨_, hrun, rfl⟩, _, h'.put o.dst hd ?_⟩
  have := Rel.slr (w := w1.alloc (.cells arr e fz)) (O := Av O (upd μ t (some ⟨w.heap.size, 0, arr.size⟩)) (upd st.r t (some ⟨sz, true, ps⟩))) (μ := upd μ t (some ⟨w.heap.size, 0, arr.size⟩))
    (R := upd st.r t (some ⟨sz, true, ps⟩)) t 0 ps.length c ⟨sz, true, ps⟩ ⟨w.heap.size, 0, arr.size⟩ (upd_same _ _ _) (upd_same _ _ _) (by simp) hc (by simpa using hroom)
  simpa using this

end
end Go.Vd
