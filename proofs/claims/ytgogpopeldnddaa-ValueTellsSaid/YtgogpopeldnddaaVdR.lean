/- Operations as steps of abstract states; a region in the order of its text. -/
import Derived.Test.YtgogpopeldnddaaVdQ
set_option linter.unusedVariables false
set_option linter.unusedSimpArgs false
namespace Go.Vd
open Go.RowKit

theorem mrg_no (r : Rows) : mrg noRows r = r := rfl
theorem mrg_one (t : Nat) (row : Row) (r : Rows) : mrg (upd noRows t (some row)) r = upd r t (some row) := by
  funext u
  by_cases hu : u = t
  · subst hu; simp [mrg, upd_same]
  · simp [mrg, upd_ne _ _ hu, noRows]

/-- Operations that make at most new rows: the value, the new rows. -/
inductive PurS (P : Program) : IOp → Slots → Rows → PV → Rows → Prop
  | pop {io : IOp} {s : Slots} {r : Rows} {p : PV} (h : pop s r io = some p) : PurS P io s r p noRows
  | box {x : Opd} {s : Slots} {r : Rows} (p : PV) (t : Nat) (hp : x.ev s = some p) (hpos : 0 < p.cells.length) (hone : ∀ q ∈ p.cells, q.one = true) :
      PurS P (.box x) s r (.ptr t 0 0) (upd noRows t (some ⟨p.cells.length, false, [p]⟩))
  | bsl {sz : Nat} {xs : List Opd} {s : Slots} {r : Rows} (ps : List PV) (t : Nat) (hp : evs s xs = some ps) (hel : ∀ p ∈ ps, p.cells.length = sz ∧ (∀ q ∈ p.cells, q.one = true) ∧ p.free = true) :
      PurS P (.bsl sz xs) s r (.slr t 0 ps.length) (upd noRows t (some ⟨sz, true, ps⟩))
  | cvs {x : Opd} {s : Slots} {r : Rows} (b : List UInt8) (t : Nat) (hp : x.ev s = some (.str b)) : PurS P (.cvs x) s r (.slr t 0 b.length) (upd noRows t (some ⟨1, true, bytesP b⟩))
  | mks {sz bytes : Nat} {z : PV} {x : Opd} {s : Slots} {r : Rows} (k : IntKind) (m : Nat) (t : Nat) (hp : x.ev s = some (.int k (m : Int))) (hb : bytes * m ≤ 281474976710656) (hm : m ≤ 9223372036854775807) (hz : z.free = true) :
      PurS P (.mks sz bytes z x) s r (.slr t 0 m) (upd noRows t (some ⟨sz, true, List.replicate m z⟩))
  | call {f : FuncId} {xs : List Opd} {s : Slots} {r : Rows} (ps : List PV) (res : PV) (N : Rows) (hp : evs s xs = some ps) (hf : Free noRows ps res N) (hs : Sat P f noRows (ps.map (PV.bor noRows r)) res N)
      (ht : res.tk (fun t => (N t).isSome) = true) (hn : ∀ t row, N t = some row → row.tk (fun u => (N u).isSome) = true) (htk : ∀ p ∈ ps, p.tk (fun t => (r t).isSome) = true) : PurS P (.call f xs) s r res N
  | calv {g : Opd} {xs : List Opd} {s : Slots} {r : Rows} (f : FuncId) (caps ps : List PV) (res : PV) (N : Rows) (hg : g.ev s = some (.clo f caps)) (hok : okFunc P f = true) (hp : evs s xs = some ps) (hf : Free noRows (ps ++ caps) res N)
      (hs : Sat P f noRows ((ps ++ caps).map (PV.bor noRows r)) res N) (ht : res.tk (fun t => (N t).isSome) = true) (hn : ∀ t row, N t = some row → row.tk (fun u => (N u).isSome) = true) (htk : ∀ p ∈ ps ++ caps, p.tk (fun t => (r t).isSome) = true) : PurS P (.calv g xs) s r res N

inductive OpS (P : Program) (T : Nat → Bool) : IOp → Option Nat → St → St → Prop
  | pur {io : IOp} {dst : Option Nat} {st : St} (p : PV) (N : Rows) (h : PurS P io st.s st.r p N) (hn : ∀ t row, N t = some row → st.r t = none) : OpS P T io dst st (St.put ⟨st.s, mrg N st.r⟩ dst p)
  | store {sz : Nat} {p q : Opd} {dst : Option Nat} {st : St} (t i off : Nat) (row : Row) (x y : PV) (hp : p.ev st.s = some (.ptr t i off)) (hq : q.ev st.s = some x) (ht : st.r t = some row) (hi : row.cs[i]? = some y)
      (hx : x.cells.length = sz) (h0 : 0 < sz) (hone : ∀ c ∈ x.cells, c.one = true) (hfit : off + sz ≤ row.sz) (hpr : row.pr = true → x.free = true) :
      OpS P T (.store sz p q) dst st (St.put ⟨st.s, upd st.r t (some ⟨row.sz, row.pr, row.cs.set i (spl y off x.cells)⟩)⟩ dst .undef)
  | app {sz bytes : Nat} {x y : Opd} {dst : Option Nat} {st : St} (p q : PV) (tok : Option Nat) (xs ys : List PV) (t' : Nat) (hp : x.ev st.s = some p) (hq : y.ev st.s = some q) (hb : basev st.r sz p = some (tok, xs)) (hT : ∀ t, tok = some t → T t = false) (he : elemsv st.r sz q = some ys)
      (hb0 : 0 < bytes) (hle : (xs.length + ys.length) * bytes ≤ 140737488355328) (ht' : st.r t' = none) : OpS P T (.app sz bytes x y) dst st (St.put (appSt st tok t' ⟨sz, true, xs ++ ys⟩) dst (.slr t' 0 (xs.length + ys.length)))
  | aps {x y : Opd} {dst : Option Nat} {st : St} (p : PV) (b : List UInt8) (tok : Option Nat) (xs : List PV) (t' : Nat) (hp : x.ev st.s = some p) (hq : y.ev st.s = some (.str b)) (hb : basev st.r 1 p = some (tok, xs)) (hT : ∀ t, tok = some t → T t = false)
      (hle : xs.length + b.length ≤ 140737488355328) (ht' : st.r t' = none) : OpS P T (.aps x y) dst st (St.put (appSt st tok t' ⟨1, true, xs ++ bytesP b⟩) dst (.slr t' 0 (xs.length + b.length)))
  | lend {f : FuncId} {xs : List Opd} {dst : Option Nat} {st : St} (ps : List PV) (Ri Ro : Rows) (res : PV) (hp : evs st.s xs = some ps) (hok : CallOk st Ri Ro) (hf : Free Ri ps res Ro) (hs : Sat P f Ri (ps.map (PV.bor Ri st.r)) res Ro) :
      OpS P T (.call f xs) dst st (St.put ⟨st.s, mrg Ro st.r⟩ dst res)
  | lendv {g : Opd} {xs : List Opd} {dst : Option Nat} {st : St} (f : FuncId) (caps ps : List PV) (Ri Ro : Rows) (res : PV) (hg : g.ev st.s = some (.clo f caps)) (hokf : okFunc P f = true) (hp : evs st.s xs = some ps) (hok : CallOk st Ri Ro)
      (hf : Free Ri (ps ++ caps) res Ro) (hs : Sat P f Ri ((ps ++ caps).map (PV.bor Ri st.r)) res Ro) : OpS P T (.calv g xs) dst st (St.put ⟨st.s, mrg Ro st.r⟩ dst res)

section
variable {w0 w : World} {O : Nat → Prop} {L : Lent} {n : Nat} {μ : Mu} {P : Program} {st st' : St} {a : Act}

theorem Done.goes {o : Oper} {a' : Act} {w' : World} {K : Act → World → Prop} (h : Done P o a w a' w') (hk : K a' w') (Q : Exit → Act → World → Prop) : o.wp P a w K Q := by
  unfold Oper.wp
  rcases h with ⟨v, h, rfl⟩ | ⟨h, rfl⟩ <;> (rw [h]; exact hk)

theorem run_callFunc {f : FuncId} (h : okFunc P f = true) (args : Array Value) (w : World) : (callFunc f args).run P w = .ok (.enter f args) w := by
  unfold okFunc at h
  cases hf : P.funcs[f]? with
  | none => simp [hf] at h
  | some fn =>
    simp only [hf, Bool.and_eq_true, bne_iff_ne, ne_eq] at h
    have h1 : (fn.name == "runtime.NumGoroutine") = false := beq_eq_false_iff_ne.2 h.2
    have h2 : fn.body.isNone = false := by cases hb : fn.body <;> simp_all
    have h2' : ¬ fn.body = none := by intro e; rw [e] at h2; cases h2
    simp [callFunc, hf, h.2, h2']

/-- A call, of a function known or of a closure. -/
theorem enter_goes {o : Oper} {f : FuncId} {vs : List Value} {K : Act → World → Prop} (hrun : (execOp a.eval o).run P w = .ok (.enter f vs.toArray) w)
    (h : Calls P f vs.toArray w fun e w' => ∃ v, e = .returned v ∧ K (a.put o.dst v) w') (Q : Exit → Act → World → Prop) : o.wp P a w K Q := by
  unfold Oper.wp
  rw [hrun, Oper.upon_enter]
  refine h.mono ?_
  rintro e w' ⟨v, rfl, hk⟩
  exact hk

theorem CellsRel.append {w : World} {O : Nat → Prop} {μ : Mu} {R : Rows} {ps qs : List PV} {us vs : List Value} (h : CellsRel w O μ R ps us) (k : CellsRel w O μ R qs vs) : CellsRel w O μ R (ps ++ qs) (us ++ vs) := by
  refine ⟨by simp [h.len, k.len], fun j p u hj hu => ?_⟩
  by_cases hlt : j < ps.length
  · rw [List.getElem?_append_left hlt] at hj
    rw [List.getElem?_append_left (by rw [h.len]; exact hlt)] at hu
    exact h.rel j p u hj hu
  · rw [List.getElem?_append_right (by omega)] at hj
    rw [List.getElem?_append_right (by rw [h.len]; omega), h.len] at hu
    exact k.rel _ p u hj hu

theorem Rel.clo_inv {w : World} {O : Nat → Prop} {μ : Mu} {R : Rows} {f : FuncId} {caps : List PV} {v : Value} (h : Rel w O μ R (.clo f caps) v) : ∃ vs : List Value, v = .func (.func f) #[] vs.toArray ∧ CellsRel w O μ R caps vs := by
  cases h with
  | base _ _ h => cases h with | clo _ _ vs hl h => exact ⟨vs, rfl, hl, fun j p u hj hu => .base _ _ (h j p u hj hu)⟩
  | clo _ _ vs hl h => exact ⟨vs, rfl, hl, h⟩

theorem CallOk.none {N : Rows} (h : ∀ t row, N t = some row → st.r t = .none) : CallOk st noRows N :=
  ⟨fun t row ht => by simp [noRows] at ht, fun t row ht _ => h t row ht⟩

theorem lend_goes {o : Oper} {f : FuncId} {xs : List Opd} (hc : copE P o = some (.call f xs)) (hd : ∀ d, o.dst = some d → d < n) (h : StRel w0 O L n μ st a w) {ps : List PV} {Ri Ro : Rows} {res : PV} (hp : evs st.s xs = some ps) (hok : CallOk st Ri Ro) (hf : Free Ri ps res Ro)
    (hs : Sat P f Ri (ps.map (PV.bor Ri st.r)) res Ro) {K : Act → World → Prop} (hK : ∀ μ' a' w', StRel w0 O L n μ' (St.put ⟨st.s, mrg Ro st.r⟩ o.dst res) a' w' → K a' w') (Q : Exit → Act → World → Prop) : o.wp P a w K Q := by
  cases copE_inv hc with
  | call c _ _ ho hcal hfo hx =>
    have hv := evs_rel h.slots _ _ _ hx hp
    refine enter_goes (vs := c.args.toList.map a.eval) ?_ (call_goes h hok hf hs hv o.dst hd fun μ' v w' hst => hK μ' _ w' hst) Q
    have hargs : c.args.map a.eval = (c.args.toList.map a.eval).toArray := by rw [← List.map_toArray, Array.toArray_toList]
    simp only [execOp, ho, resolve, hcal, hargs]
    simp [invoke, Deferred.ofValue, Act.eval, run_callFunc hfo]

theorem lendv_goes {o : Oper} {g : Opd} {xs : List Opd} (hc : copE P o = some (.calv g xs)) (hd : ∀ d, o.dst = some d → d < n) (h : StRel w0 O L n μ st a w) {f : FuncId} {caps ps : List PV} {Ri Ro : Rows} {res : PV} (hg : g.ev st.s = some (.clo f caps)) (hokf : okFunc P f = true)
    (hp : evs st.s xs = some ps) (hok : CallOk st Ri Ro) (hf : Free Ri (ps ++ caps) res Ro) (hs : Sat P f Ri ((ps ++ caps).map (PV.bor Ri st.r)) res Ro) {K : Act → World → Prop} (hK : ∀ μ' a' w', StRel w0 O L n μ' (St.put ⟨st.s, mrg Ro st.r⟩ o.dst res) a' w' → K a' w') (Q : Exit → Act → World → Prop) :
    o.wp P a w K Q := by
  cases copE_inv hc with
  | calv c g' _ _ ho hcal hgc hx =>
    have hv := evs_rel h.slots _ _ _ hx hp
    obtain ⟨us, hu, hcu⟩ := (ev_rel h.slots hgc hg).clo_inv
    refine enter_goes (vs := c.args.toList.map a.eval ++ us) ?_ (call_goes h hok hf hs (hv.append hcu) o.dst hd fun μ' v w' hst => hK μ' _ w' hst) Q
    simp only [execOp, ho, resolve, hcal, hu, Deferred.ofValue]
    simp [invoke, run_callFunc hokf]

theorem OpS.goes {o : Oper} {io : IOp} (hc : cop P o = some io ∨ (copE P o = some io)) (hx : ∀ p, pop st.s st.r io = some p → cop P o = some io) (hx2 : pop st.s st.r io = none → copE P o = some io) (hd : ∀ d, o.dst = some d → d < n) (h : StRel w0 O L n μ st a w) (hs : OpS P L.T io o.dst st st') {K : Act → World → Prop}
    (hK : ∀ μ' a' w', StRel w0 O L n μ' st' a' w' → K a' w') (Q : Exit → Act → World → Prop) : o.wp P a w K Q := by
  cases hs with
  | pur p N hp hn =>
    cases hp with
    | pop hp =>
      obtain ⟨a', w', hd', μ', hst⟩ := pop_done (hx p hp) hd h hp
      exact hd'.goes (hK μ' a' w' hst) Q
    | box p t hp hpos hone =>
      have ht : st.r t = none := hn t _ (upd_same _ _ _)
      obtain ⟨a', w', hd', μ', hst⟩ := box_done (hx2 rfl) hd h hp hpos hone t ht
      rw [← mrg_one] at hst
      exact hd'.goes (hK μ' a' w' hst) Q
    | bsl ps t hp hel =>
      have ht : st.r t = none := hn t _ (upd_same _ _ _)
      obtain ⟨a', w', hd', μ', hst⟩ := bsl_done (hx2 rfl) hd h hp hel t ht
      rw [← mrg_one] at hst
      exact hd'.goes (hK μ' a' w' hst) Q
    | cvs b t hp =>
      have ht : st.r t = none := hn t _ (upd_same _ _ _)
      obtain ⟨a', w', hd', μ', hst⟩ := cvs_done (hx2 rfl) hd h hp t ht
      rw [← mrg_one] at hst
      exact hd'.goes (hK μ' a' w' hst) Q
    | mks k m t hp hb hm hz =>
      have ht : st.r t = none := hn t _ (upd_same _ _ _)
      obtain ⟨a', w', hd', μ', hst⟩ := mks_done (hx2 rfl) hd h hp hb hm hz t ht
      rw [← mrg_one] at hst
      exact hd'.goes (hK μ' a' w' hst) Q
    | call ps _ _ hp hf hs ht hn' _ => exact lend_goes (hx2 rfl) hd h hp (CallOk.none hn) hf hs hK Q
    | calv f caps ps _ _ hg hok hp hf hs ht hn' _ => exact lendv_goes (hx2 rfl) hd h hg hok hp (CallOk.none hn) hf hs hK Q
  | store t i off row x y hp hq ht hi hx' h0 hone hfit hpr =>
    obtain ⟨a', w', hd', μ', hst⟩ := store_done (hx2 rfl) hd h hp hq ht hi hx' h0 hone hfit hpr
    exact hd'.goes (hK μ' a' w' hst) Q
  | app p q tok xs ys t' hp hq hb hT he hb0 hle ht' =>
    obtain ⟨a', w', hd', μ', hst⟩ := app_done (hx2 rfl) hd h hp hq hb hT he hb0 hle t' ht'
    exact hd'.goes (hK μ' a' w' hst) Q
  | aps p b tok xs t' hp hq hb hT hle ht' =>
    obtain ⟨a', w', hd', μ', hst⟩ := aps_done (hx2 rfl) hd h hp hq hb hT hle t' ht'
    exact hd'.goes (hK μ' a' w' hst) Q
  | lend ps Ri Ro res hp hok hf hs => exact lend_goes (hx2 rfl) hd h hp hok hf hs hK Q
  | lendv f caps ps Ri Ro res hg hokf hp hok hf hs => exact lendv_goes (hx2 rfl) hd h hg hokf hp hok hf hs hK Q

end
end Go.Vd
