/- append: the state behind it. -/
import Derived.Test.YtgogpopeldnddaaVdO
set_option linter.unusedVariables false
set_option linter.unusedSimpArgs false
namespace Go.Vd
open Go.RowKit

theorem toarr (l : List Value) (B : Array Value) : l.toArray ++ B = (l ++ B.toList).toArray := by
  apply Array.toList_inj.1
  simp

/-- What is appended to: the row (none: none is owned) and its elements from there on. -/
def basev (R : Rows) (sz : Nat) : PV → Option (Option Nat × List PV)
  | .nl => some (none, [])
  | .slr t lo n => match R t with
    | some row => if row.sz = sz ∧ row.pr = true ∧ lo + n = row.cs.length then some (some t, row.cs.drop lo) else none
    | none => none
  | _ => none

/-- The state behind an append: the old row is gone, a new one is there. -/
def appSt (st : St) (tok : Option Nat) (t' : Nat) (row : Row) : St :=
  match tok with
  | none => ⟨st.s, upd st.r t' (some row)⟩
  | some t => ⟨killS t st.s, upd (killR t st.r) t' (some row)⟩

section
variable {w0 w : World} {O : Nat → Prop} {L : Lent} {n : Nat} {μ : Mu} {P : Program} {st : St} {a : Act}

theorem killAv {t b : Nat} (h : Av O μ (killR t st.r) b) : Av O μ st.r b := by
  rcases h with h1 | ⟨u, r, l, h1, h2, h3⟩
  · exact .inl h1
  · obtain ⟨hu, r', hr, rfl⟩ := killR_inv h1
    exact .inr ⟨u, r', l, hr, h2, h3⟩

/-- The new row in a block of its own. -/
theorem grow_done {o : Oper} (hd : ∀ d, o.dst = some d → d < n) (h : StRel w0 O L n μ st a w) {st1 : St} (h1 : StRel w0 O L n μ st1 a w) (hav : ∀ b, Av O μ st1.r b → Av O μ st.r b) {sz : Nat} (hz : 0 < sz) {xs ys : List PV} {s x : Value} {olds news : List Value}
    (ho : Shows P w (Av O μ st.r) sz xs s olds) (hs : Shows P w (Av O μ st.r) sz ys x news) (rest : List Value) (t' : Nat) (ht' : st1.r t' = none) {e : TypeId} {c : Nat} (hc : xs.length + ys.length ≤ c)
    (hrest : (olds ++ news ++ rest).length = c * sz)
    (hrun : (execOp a.eval o).run P w = .ok (.value (.slice (some ⟨w.heap.size, 0, none⟩) (xs.length + ys.length) c)) (w.drew.alloc (.cells (olds ++ news ++ rest).toArray e))) :
    ∃ a' w', Done P o a w a' w' ∧ ∃ μ', StRel w0 O L n μ' (St.put ⟨st1.s, upd st1.r t' (some ⟨sz, true, xs ++ ys⟩)⟩ o.dst (.slr t' 0 (xs.length + ys.length))) a' w' := by
  have hl : (xs ++ ys).length = xs.length + ys.length := List.length_append
  rw [← hl] at hrun hc ⊢
  exact row_done hd h1 hz (fun p hp => by
    rcases List.mem_append.1 hp with hp | hp
    · exact ho.el p hp
    · exact hs.el p hp) t' ht' (fz := (0, 0)) (fun j _ hj => by simp at hj) hc (by rw [List.size_toArray, hrest]; exact Nat.le_refl _) (fun i y j q hi hj => by
    obtain ⟨u, hu, hr⟩ := shows_append hz ho hs rest i y j q hi hj
    exact ⟨u, by simpa using hu, hr.frame (fun _ _ _ => rfl) (fun b _ hb => hav b hb)⟩) (.inl rfl) hrun

theorem append_done {o : Oper} {c : Call} {x y : Operand} {t u e : TypeId} {i : TypeInfo} {z : Value} (ho : o.op = .call c) (hcal : c.callee = .builtin .append) (ha : c.args.toList = [x, y]) (hat : c.argTypes.toList = [t, u])
    (ht : P.underlying t = some (.slice e)) (hu : P.underlying u = some .string ∨ ∃ e', P.underlying u = some (.slice e')) (hi : P.info? e = some i) (hz : i.zero = some z) (hzs : z.cells.size = i.size) (h0 : 0 < i.size)
    (hd : ∀ d, o.dst = some d → d < n) (h : StRel w0 O L n μ st a w) {p : PV} (hp : Rel w (Av O μ st.r) μ st.r p (a.eval x)) {tok : Option Nat} {xs : List PV} (hbase : basev st.r i.size p = some (tok, xs)) (hT : ∀ t, tok = some t → L.T t = false)
    {ys : List PV} {news : List Value} (hs : Shows P w (Av O μ st.r) i.size ys (a.eval y) news) (hb0 : 0 < i.bytes) (hb : (xs.length + ys.length) * i.bytes ≤ 140737488355328) (t' : Nat) (ht' : st.r t' = none) :
    ∃ a' w', Done P o a w a' w' ∧ ∃ μ', StRel w0 O L n μ' (St.put (appSt st tok t' ⟨i.size, true, xs ++ ys⟩) o.dst (.slr t' 0 (xs.length + ys.length))) a' w' := by
  have hle : xs.length + ys.length ≤ 140737488355328 := by
    have : (xs.length + ys.length) * 1 ≤ (xs.length + ys.length) * i.bytes := Nat.mul_le_mul_left _ hb0
    omega
  -- the machine's run, from the builtin's
  have hargs : c.args = #[x, y] := by rw [← Array.toArray_toList (xs := c.args), ha]
  have htys : c.argTypes = #[t, u] := by rw [← Array.toArray_toList (xs := c.argTypes), hat]
  have lift : ∀ {v : Value} {w' : World}, (Builtin.append_ #[t, u] o.type #[a.eval x, a.eval y]).run P w = .ok v w' → (execOp a.eval o).run P w = .ok (.value v) w' := by
    intro v w' hrun
    simp only [execOp, ho, resolve, hcal]
    simp [invoke, builtin, hargs, htys, hrun]
  have hzc : ∀ k, (Builtin.zeroCells z.cells k).toList.length = k * i.size := by intro k; simp [Builtin.zeroCells, hzs]
  have hgt : t' ≠ t' → False := fun h => h rfl
  -- no capacity: either nothing is appended, or a new block is made
  have nocap : ∀ (A : Option Addr) (st1 : St), a.eval x = .slice A 0 0 → xs = [] → StRel w0 O L n μ st1 a w → (∀ b, Av O μ st1.r b → Av O μ st.r b) → st1.r t' = none →
      ∃ a' w', Done P o a w a' w' ∧ ∃ μ', StRel w0 O L n μ' (St.put ⟨st1.s, upd st1.r t' (some ⟨i.size, true, xs ++ ys⟩)⟩ o.dst (.slr t' 0 (xs.length + ys.length))) a' w' := by
    intro A st1 hv hxs h1 hav ht1
    subst hxs
    cases ys with
    | nil =>
      have hrun := run_append_none (P := P) (ty := o.type) (A := A) ht hu hi hs
      rw [← hv] at hrun
      have hen := h1.empty t' ht1 i.size h0 true
      refine ⟨_, w, .inl ⟨_, lift hrun, rfl⟩, _, hen.put o.dst hd ?_⟩
      rw [hv]
      exact .slr0 t' 0 ⟨i.size, true, []⟩ A (upd_same _ _ _) (Nat.le_refl _)
    | cons y0 ys0 =>
      have hrun := run_append_gr (P := P) (ty := o.type) (s := .slice A 0 0) (sLen := 0) (sCap := 0) (A := A) ht hu hi hz rfl (shows_nil i.size A 0) rfl hs (by simp) (by simp at hle ⊢; omega) (growslice_fits (by simp) (by simpa using hb))
      rw [← hv] at hrun
      have hge := grownCap_ge w (0 + (y0 :: ys0).length) 0 e
      refine grow_done hd h h1 hav h0 (xs := []) (shows_nil i.size A 0) hs (Builtin.zeroCells z.cells (grownCap w (0 + (y0 :: ys0).length) 0 e - (0 + (y0 :: ys0).length))).toList t' ht1 (e := e) (c := grownCap w (0 + (y0 :: ys0).length) 0 e) (by simpa using hge) ?_ (lift ?_)
      · rw [List.length_append, hzc, List.nil_append, hs.cnt, ← Nat.add_mul, Nat.zero_add, Nat.add_sub_cancel' (by simpa using hge)]
      · rw [hrun, toarr]
        simp only [List.nil_append, Nat.zero_add, List.length_nil]
  cases p <;> simp only [basev] at hbase <;> try cases hbase
  case nl =>
    generalize hv : a.eval x = v at hp
    cases hp with
    | base _ _ h' => cases h' with | nl A => exact nocap A st hv rfl h (fun _ h => h) ht'
  case slr t0 lo k =>
    cases hr : st.r t0 with
    | none => simp [hr] at hbase
    | some row =>
      simp only [hr] at hbase
      split at hbase
      · rename_i hcond
        obtain ⟨hsz, hpr, htop⟩ := hcond
        cases hbase
        have hne : t' ≠ t0 := fun e => by rw [← e, ht'] at hr; cases hr
        have hkn : killR t0 st.r t' = none := killR_none ht'
        have hdl : (row.cs.drop lo).length = k := by simp; omega
        generalize hv : a.eval x = v at hp
        cases hp with
        | base _ _ h' => cases h'
        | slr0 _ _ row' A hr' hn =>
          have hnil : row.cs.drop lo = [] := List.eq_nil_of_length_eq_zero (by omega)
          exact nocap A ⟨killS t0 st.s, killR t0 st.r⟩ hv hnil (h.kill t0 (hT t0 rfl)) (fun b hb => killAv hb) hkn
        | slr _ _ _ cap row' l hr' hm hn hc hroom =>
          rw [hr] at hr'
          cases hr'
          have hrr := h.rows t0 row hr
          have hlie := hrr.lie l hm
          have hos := shows_of (P := P) (w := w) (O := Av O μ st.r) i.size h0 (row.cs.drop lo) l.b (l.base + lo * row.sz) cap (fun y hy => by
            have := hrr.el y (List.mem_of_mem_drop hy)
            rwa [hsz] at this) (fun i' x' j q hi' hj => by
            rw [List.getElem?_drop] at hi'
            obtain ⟨u', hu', hcr⟩ := hlie.cell hi' hj
            unfold CellRel at hcr
            rw [hpr, if_pos rfl] at hcr
            refine ⟨u', ?_, hcr⟩
            rw [← hu', hsz, Nat.add_mul]
            congr 2
            omega)
          rw [hdl] at hos
          obtain ⟨olds, hos⟩ := hos
          rw [hdl] at hle hb ⊢
          by_cases hfit : k + ys.length ≤ cap
          · -- within the capacity
            obtain ⟨arr, ety, fz, g1, g2, g3, g4, g5⟩ := hlie
            have hbase' : (lo + cap) * i.size ≤ l.room := by rw [← hsz]; exact hroom
            have hkm : (k + ys.length) * i.size ≤ cap * i.size := Nat.mul_le_mul_right _ hfit
            rw [Nat.add_mul] at hbase' hkm
            obtain ⟨w', arr', s1, s2, s3, s4, s5, s6⟩ := storeCells_run (P := P) l.b ety fz news (l.base + lo * row.sz + k * i.size) 0 w arr g1 (by rw [hs.cnt, hsz]; omega) (fun j hj1 hj2 => g4 j (by omega) (by rw [hs.cnt, hsz] at hj2; omega)) hs.one
            have hrun := run_append_in (P := P) (ty := o.type) (b := l.b) (o := l.base + lo * row.sz) (sLen := k) (sCap := cap) ht hu hi hs hfit
            rw [s1] at hrun
            simp only [Result.andThen_ok] at hrun
            rw [← hv] at hrun
            have hsw := h.swap hr hm (hT t0 rfl) t' ht' s2 ⟨i.size, true, row.cs.drop lo ++ ys⟩ ⟨l.b, l.base + lo * i.size, l.room - lo * i.size⟩ rfl h0 (fun y hy => by
              rcases List.mem_append.1 hy with hy | hy
              · exact hos.el y hy
              · exact hs.el y hy) rfl ⟨arr', ety, fz, s4, by rw [s5]; show l.base + lo * i.size + (l.room - lo * i.size) ≤ _; omega, by
                show (row.cs.drop lo ++ ys).length * i.size ≤ l.room - lo * i.size
                rw [List.length_append, hdl, Nat.add_mul]; omega, fun j hj1 hj2 => g4 j (by simp only at hj1; omega) (by simp only at hj2; omega), fun i' y j q hi' hj => by
                show ∃ v, arr'[l.base + lo * i.size + (i' * i.size + j)]? = some v ∧ _
                have hi'' : (row.cs.drop lo ++ ys)[i']? = some y := hi'
                obtain ⟨hjl, _⟩ := List.getElem?_eq_some_iff.1 hj
                rw [s6, hsz]
                by_cases hil : i' < k
                · rw [List.getElem?_append_left (by omega)] at hi''
                  rw [if_neg ?_]
                  · rw [List.getElem?_drop] at hi''
                    obtain ⟨v', hv', hcr⟩ := g5 (lo + i') y j q hi'' hj
                    unfold CellRel at hcr
                    rw [hpr, if_pos rfl] at hcr
                    refine ⟨v', ?_, hcr⟩
                    rw [← hv', hsz, Nat.add_mul]
                    congr 1
                    omega
                  · have hyl := (hos.el y (List.mem_of_getElem? hi'')).1
                    have : (i' + 1) * i.size ≤ k * i.size := Nat.mul_le_mul_right _ hil
                    rw [Nat.add_mul] at this
                    omega
                · rw [List.getElem?_append_right (by omega), hdl] at hi''
                  obtain ⟨v', hv', hr0⟩ := hs.rel _ y j q hi'' hj
                  obtain ⟨hvl, _⟩ := List.getElem?_eq_some_iff.1 hv'
                  have hsplit : i' * i.size = k * i.size + (i' - k) * i.size := by rw [← Nat.add_mul]; congr 1; omega
                  refine ⟨v', ?_, hr0⟩
                  rw [if_pos (by rw [hsplit]; omega), ← hv']
                  congr 1
                  rw [hsplit]
                  omega⟩
            refine ⟨_, w', .inl ⟨_, lift hrun, rfl⟩, _, hsw.put o.dst hd ?_⟩
            have := Rel.slr (w := w') (O := Av O (upd μ t' (some ⟨l.b, l.base + lo * i.size, l.room - lo * i.size⟩)) (upd (killR t0 st.r) t' (some ⟨i.size, true, row.cs.drop lo ++ ys⟩))) (μ := upd μ t' (some ⟨l.b, l.base + lo * i.size, l.room - lo * i.size⟩))
              (R := upd (killR t0 st.r) t' (some ⟨i.size, true, row.cs.drop lo ++ ys⟩)) t' 0 (k + ys.length) cap ⟨i.size, true, row.cs.drop lo ++ ys⟩ ⟨l.b, l.base + lo * i.size, l.room - lo * i.size⟩ (upd_same _ _ _) (upd_same _ _ _)
              (by simp only [List.length_append, hdl]; omega) hfit (by show (0 + cap) * i.size ≤ l.room - lo * i.size; rw [Nat.zero_add]; omega)
            simp only [Nat.zero_mul, Nat.add_zero] at this
            rw [hsz]
            exact this
          · -- beyond it
            have hrun := run_append_gr (P := P) (ty := o.type) (sLen := k) (sCap := cap) ht hu hi hz rfl hos hdl hs (by omega) (by omega) (growslice_fits (by omega) hb)
            rw [← hv] at hrun
            have hge := grownCap_ge w (k + ys.length) cap e
            have := grow_done (P := P) (o := o) hd h (h.kill t0 (hT t0 rfl)) (fun b hb => killAv hb) h0 hos hs (Builtin.zeroCells z.cells (grownCap w (k + ys.length) cap e - (k + ys.length))).toList t' hkn (e := e) (c := grownCap w (k + ys.length) cap e) (by rw [hdl]; exact hge) (by
              rw [List.length_append, hzc, List.length_append, hos.cnt, hs.cnt, hdl, ← Nat.add_mul, ← Nat.add_mul, Nat.add_sub_cancel' hge]) (lift (by rw [hrun, hdl, toarr]))
            rw [hdl] at this
            exact this
      · cases hbase

theorem app_done {o : Oper} {sz bytes : Nat} {x y : Opd} (hc : copE P o = some (.app sz bytes x y)) (hd : ∀ d, o.dst = some d → d < n) (h : StRel w0 O L n μ st a w) {p q : PV} (hp : x.ev st.s = some p) (hq : y.ev st.s = some q)
    {tok : Option Nat} {xs ys : List PV} (hb : basev st.r sz p = some (tok, xs)) (hT : ∀ t, tok = some t → L.T t = false) (he : elemsv st.r sz q = some ys) (hb0 : 0 < bytes) (hle : (xs.length + ys.length) * bytes ≤ 140737488355328) (t' : Nat) (ht' : st.r t' = none) :
    ∃ a' w', Done P o a w a' w' ∧ ∃ μ', StRel w0 O L n μ' (St.put (appSt st tok t' ⟨sz, true, xs ++ ys⟩) o.dst (.slr t' 0 (xs.length + ys.length))) a' w' := by
  cases copE_inv hc with
  | app c x' y' t u e e' i z _ _ ho hcal ha hat ht hu hi hz hzs h0 hbb hx hy =>
    obtain ⟨news, hs⟩ := elems_shows (P := P) h.rows (ev_rel h.slots hy hq) he
    exact append_done ho hcal ha hat ht (.inr ⟨e', hu⟩) hi hz hzs h0 hd h (ev_rel h.slots hx hp) hb hT hs hb0 hle t' ht'

theorem aps_done {o : Oper} {x y : Opd} (hc : copE P o = some (.aps x y)) (hd : ∀ d, o.dst = some d → d < n) (h : StRel w0 O L n μ st a w) {p : PV} {s : List UInt8} (hp : x.ev st.s = some p) (hq : y.ev st.s = some (.str s))
    {tok : Option Nat} {xs : List PV} (hb : basev st.r 1 p = some (tok, xs)) (hT : ∀ t, tok = some t → L.T t = false) (hle : xs.length + s.length ≤ 140737488355328) (t' : Nat) (ht' : st.r t' = none) :
    ∃ a' w', Done P o a w a' w' ∧ ∃ μ', StRel w0 O L n μ' (St.put (appSt st tok t' ⟨1, true, xs ++ bytesP s⟩) o.dst (.slr t' 0 (xs.length + s.length))) a' w' := by
  cases copE_inv hc with
  | aps c x' y' t u e i z _ _ ho hcal ha hat ht hu hi hz hzs h1 hb1 hx hy =>
    have hv := (ev_rel h.slots hy hq).str_inv
    have hbs : (⟨s.toArray⟩ : ByteArray).size = s.length := List.size_toArray
    have hs : Shows P w (Av O μ st.r) 1 (bytesP s) (a.eval y') (s.map fun b => Value.int .u8 (b.toNat : Int)) := by
      rw [hv]
      refine ⟨fun w' => by simp [Builtin.lenOf, hbs, bytesP], fun w' _ => ?_, by simp [bytesP], fun q hq => ?_, fun i x j q hi hj => ?_, fun u hu => ?_⟩
      · rw [bytesP_len]
        simp only [Builtin.firstCells, Sem.run_pure]
        congr 1
        have : (⟨s.toArray⟩ : ByteArray).extract 0 s.length = ⟨s.toArray⟩ := by
          apply ByteArray.ext
          rw [ByteArray.data_extract]
          simp
        rw [this]
        simp
      · obtain ⟨b, _, rfl⟩ := List.mem_map.1 hq
        exact ⟨rfl, fun c hc => by simp [PV.cells] at hc; subst hc; rfl⟩
      · unfold bytesP at hi
        rw [List.getElem?_map] at hi
        obtain ⟨b, hb', rfl⟩ := Option.map_eq_some_iff.1 hi
        cases j with
        | succ j => simp [PV.cells] at hj
        | zero =>
          simp [PV.cells] at hj
          subst hj
          exact ⟨_, by simp [hb'], .int _ _⟩
      · obtain ⟨b, _, rfl⟩ := List.mem_map.1 hu
        rfl
    have := append_done (P := P) (ys := bytesP s) ho hcal ha hat ht (.inl hu) hi hz hzs (by omega) hd h (ev_rel h.slots hx hp) (by rw [h1]; exact hb) hT (by rw [h1]; exact hs) (by omega) (by rw [hb1, bytesP_len]; omega) t' ht'
    rw [h1, bytesP_len] at this
    exact this
end
end Go.Vd
