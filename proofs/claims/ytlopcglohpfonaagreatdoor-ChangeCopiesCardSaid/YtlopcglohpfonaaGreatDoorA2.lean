/- A part of the proof: a logic of values, rows and steps. -/
import Derived.Test.YtlopcglohpfonaaGreatDoorA1
import Derived.Orders
section
set_option linter.unusedVariables false
set_option linter.unusedSimpArgs false
namespace Go.Vd
open Go.RowKit
theorem Du (l : List Value) (B : Array Value) : l.toArray ++ B = (l ++ B.toList).toArray := by
 apply Array.toList_inj.1
 simp
def VT (R : Rows) (sz : Nat) : PV → Option (Option Nat × List PV)
 | .nl => some (none, [])
 | .slr t lo n => match R t with
  | some row => if row.sz = sz ∧ row.pr = true ∧ lo + n = row.cs.length then some (some t, row.cs.drop lo) else none
  | none => none
 | _ => none
def XX (st : St) (tok : Option Nat) (t' : Nat) (row : Row) : St :=
 match tok with
 | none => ⟨st.s, upd st.r t' (some row)⟩
 | some t => ⟨fG t st.s, upd (MK t st.r) t' (some row)⟩
section
variable {w0 w : World} {O : Nat → Prop} {L : MN} {n : Nat} {μ : Mu} {P : Program} {st : St} {a : Act}
theorem vR [BA] {t b : Nat} (h : Av O μ (MK t st.r) b) : Av O μ st.r b := by
 rcases h with h1 | ⟨u, r, l, h1, h2, h3⟩
 ·exact .inl h1
 ·obtain ⟨hu, r', hr, rfl⟩ := IA h1
  exact .inr ⟨u, r', l, hr, h2, h3⟩
theorem fO [BA] {o : Oper} (hd : ∀ d, o.dst = some d → d < n) (h : BJ w0 O L n μ st a w) {st1 : St} (h1 : BJ w0 O L n μ st1 a w) (hav : ∀ b, Av O μ st1.r b → Av O μ st.r b) {sz : Nat} (hz : 0 < sz) {xs ys : List PV} {s x : Value} {olds news : List Value}
  (ho : SS P w (Av O μ st.r) sz xs s olds) (hs : SS P w (Av O μ st.r) sz ys x news) (rest : List Value) (t' : Nat) (ht' : st1.r t' = none) {e : TypeId} (hty : ∀ k, IP t' = some k → e = k) {c : Nat} (hc : xs.length + ys.length ≤ c)
  (hrest : (olds ++ news ++ rest).length = c * sz)
  (hrun : (execOp a.eval o).run P w = .ok (.value (.slice (some ⟨w.heap.size, 0, none⟩) (xs.length + ys.length) c)) (w.drew.alloc (.cells (olds ++ news ++ rest).toArray e))) :
  ∃ a' w', Done P o a w a' w' ∧ ∃ μ', BJ w0 O L n μ' (St.put ⟨st1.s, upd st1.r t' (some ⟨sz, true, xs ++ ys⟩)⟩ o.dst (.slr t' 0 (xs.length + ys.length))) a' w' := by
 have hl : (xs ++ ys).length = xs.length + ys.length := List.length_append
 rw [← hl] at hrun hc ⊢
 exact XH hd h1 hz (fun p hp => by
  rcases List.mem_append.1 hp with hp | hp
  ·exact ho.el p hp
  ·exact hs.el p hp) t' ht' hty (fz := (0, 0)) (fun j _ hj => by simp at hj) hc (by rw [List.size_toArray, hrest]; exact Nat.le_refl _) (fun i y j q hi hj => by
  obtain ⟨u, hu, hr⟩ := iA hz ho hs rest i y j q hi hj
  exact ⟨u, by simpa using hu, hr.frame (fun _ _ _ => rfl) (fun b _ hb => hav b hb)⟩) (.inl rfl) hrun
def UZ (t' e : Nat) (p : PV) : Bool := match IP t' with
 | none => true
 | some k => Nat.beq e k && match p with
  | .slr t lo _ => Nat.beq lo 0 && match IP t with
   | some j => Nat.beq j k
   | none => false
  | _ => true
theorem o7 {t' e : Nat} {p : PV} (h : UZ t' e p = true) : ∀ k, IP t' = some k → e = k ∧ ∀ t lo m, p = .slr t lo m → lo = 0 ∧ IP t = some k := by
 intro k hk
 unfold UZ at h
 rw [hk] at h
 simp only [Bool.and_eq_true] at h
 refine ⟨Nat.eq_of_beq_eq_true h.1, fun t lo m e => ?_⟩
 subst e
 have h2 := h.2
 simp only [Bool.and_eq_true] at h2
 refine ⟨Nat.eq_of_beq_eq_true h2.1, ?_⟩
 have h3 := h2.2
 split at h3
 ·rename_i j hj; rw [hj, Nat.eq_of_beq_eq_true h3]
 ·cases h3
theorem ZC [BA] {o : Oper} {c : Call} {x y : Operand} {t u e : TypeId} {i : TypeInfo} {z : Value} (ho : o.op = .call c) (hcal : c.callee = .builtin .append) (ha : c.args.toList = [x, y]) (hat : c.argTypes.toList = [t, u])
  (ht : P.underlying t = some (.slice e)) (hu : P.underlying u = some .string ∨ ∃ e', P.underlying u = some (.slice e')) (hi : P.info? e = some i) (hz : i.zero = some z) (hzs : z.cells.size = i.size) (h0 : 0 < i.size)
  (hd : ∀ d, o.dst = some d → d < n) (h : BJ w0 O L n μ st a w) {p : PV} (hp : D8 w (Av O μ st.r) μ st.r p (a.eval x)) {tok : Option Nat} {xs : List PV} (hbase : VT st.r i.size p = some (tok, xs)) (hT : ∀ t, tok = some t → L.T t = false)
  {ys : List PV} {news : List Value} (hs : SS P w (Av O μ st.r) i.size ys (a.eval y) news) (hb0 : 0 < i.bytes) (hb : (xs.length + ys.length) * i.bytes ≤ 140737488355328) (t' : Nat) (ht' : st.r t' = none) (hty : UZ t' e p = true) :
  ∃ a' w', Done P o a w a' w' ∧ ∃ μ', BJ w0 O L n μ' (St.put (XX st tok t' ⟨i.size, true, xs ++ ys⟩) o.dst (.slr t' 0 (xs.length + ys.length))) a' w' := by
 have hle : xs.length + ys.length ≤ 140737488355328 := by
  have : (xs.length + ys.length) * 1 ≤ (xs.length + ys.length) * i.bytes := Nat.mul_le_mul_left _ hb0
  omega
 have hargs : c.args = #[x, y] := by rw [← Array.toArray_toList (xs := c.args), ha]
 have htys : c.argTypes = #[t, u] := by rw [← Array.toArray_toList (xs := c.argTypes), hat]
 have lift : ∀ {v : Value} {w' : World}, (Builtin.append_ #[t, u] o.type #[a.eval x, a.eval y]).run P w = .ok v w' → (execOp a.eval o).run P w = .ok (.value v) w' := by
  intro v w' hrun
  simp only [execOp, ho, resolve, hcal]
  simp [invoke, builtin, hargs, htys, hrun]
 have hzc : ∀ k, (Builtin.zeroCells z.cells k).toList.length = k * i.size := by intro k; simp [Builtin.zeroCells, hzs]
 have hte := o7 hty
 have nocap : ∀ (A : Option Addr) (st1 : St), a.eval x = .slice A 0 0 → xs = [] → BJ w0 O L n μ st1 a w → (∀ b, Av O μ st1.r b → Av O μ st.r b) → st1.r t' = none →
   ∃ a' w', Done P o a w a' w' ∧ ∃ μ', BJ w0 O L n μ' (St.put ⟨st1.s, upd st1.r t' (some ⟨i.size, true, xs ++ ys⟩)⟩ o.dst (.slr t' 0 (xs.length + ys.length))) a' w' := by
  intro A st1 hv hxs h1 hav ht1
  subst hxs
  cases ys with
  | nil =>
   have hrun := ZQ (P := P) (ty := o.type) (A := A) ht hu hi hs
   rw [← hv] at hrun
   have hen := h1.empty t' ht1 i.size h0 true
   refine ⟨_, w, .inl ⟨_, lift hrun, rfl⟩, _, hen.put o.dst hd ?_⟩
   rw [hv]
   exact .slr0 t' 0 ⟨i.size, true, []⟩ A (upd_same _ _ _) (Nat.le_refl _)
  | cons y0 ys0 =>
   have hrun := VO (P := P) (ty := o.type) (s := .slice A 0 0) (sLen := 0) (sCap := 0) (A := A) ht hu hi hz rfl (RX i.size A 0) rfl hs (by simp) (by simp at hle ⊢; omega) (growslice_fits (by simp) (by simpa using hb))
   rw [← hv] at hrun
   have hge := grownCap_ge w (0 + (y0 :: ys0).length) 0 e
   refine fO hd h h1 hav h0 (xs := []) (RX i.size A 0) hs (Builtin.zeroCells z.cells (grownCap w (0 + (y0 :: ys0).length) 0 e - (0 + (y0 :: ys0).length))).toList t' ht1 (e := e) (fun k hk => (hte k hk).1) (c := grownCap w (0 + (y0 :: ys0).length) 0 e) (by simpa using hge) ?_ (lift ?_)
   ·rw [List.length_append, hzc, List.nil_append, hs.cnt, ← Nat.add_mul, Nat.zero_add, Nat.add_sub_cancel' (by simpa using hge)]
   ·rw [hrun, Du]
    simp only [List.nil_append, Nat.zero_add, List.length_nil]
 cases p <;> simp only [VT] at hbase <;> try cases hbase
 case nl =>
  generalize hv : a.eval x = v at hp
  cases hp with
  | base _ _ h' => cases h' with | nl => exact nocap none st hv rfl h (fun _ h => h) ht'
 case slr t0 lo k =>
  cases hr : st.r t0 with
  | none => simp [hr] at hbase
  | some row =>
   simp only [hr] at hbase
   split at hbase
   ·rename_i hcond
    obtain ⟨hsz, hpr, htop⟩ := hcond
    cases hbase
    have hne : t' ≠ t0 := fun e => by rw [← e, ht'] at hr; cases hr
    have hkn : MK t0 st.r t' = none := nA ht'
    have hdl : (row.cs.drop lo).length = k := by simp; omega
    generalize hv : a.eval x = v at hp
    cases hp with
    | base _ _ h' => cases h'
    | slr0 _ _ row' A hr' hn =>
     have hnil : row.cs.drop lo = [] := List.eq_nil_of_length_eq_zero (by omega)
     exact nocap A ⟨fG t0 st.s, MK t0 st.r⟩ hv hnil (h.kill t0 (hT t0 rfl)) (fun b hb => vR hb) hkn
    | slr _ _ _ cap row' l hr' hm hn hc hroom =>
     rw [hr] at hr'
     cases hr'
     have hrr := h.rows t0 row hr
     have hlie := hrr.lie l hm
     have hos := aK (P := P) (w := w) (O := Av O μ st.r) i.size h0 (row.cs.drop lo) l.b (l.base + lo * row.sz) cap (fun y hy => by
      have := hrr.el y (List.mem_of_mem_drop hy)
      rwa [hsz] at this) (fun i' x' j q hi' hj => by
      rw [List.getElem?_drop] at hi'
      obtain ⟨u', hu', hcr⟩ := hlie.cell hi' hj
      unfold D6 at hcr
      rw [hpr, if_pos rfl] at hcr
      refine ⟨u', ?_, hcr⟩
      rw [← hu', hsz, Nat.add_mul]
      congr 2
      omega)
     rw [hdl] at hos
     obtain ⟨olds, hos⟩ := hos
     rw [hdl] at hle hb ⊢
     by_cases hfit : k + ys.length ≤ cap
     ·-- within the capacity
      obtain ⟨arr, ety, fz, g1, g2, g3, g4, g5⟩ := hlie
      have hbase' : (lo + cap) * i.size ≤ l.room := by rw [← hsz]; exact hroom
      have hkm : (k + ys.length) * i.size ≤ cap * i.size := Nat.mul_le_mul_right _ hfit
      rw [Nat.add_mul] at hbase' hkm
      obtain ⟨w', arr', s1, s2, s3, s4, s5, s6⟩ := PX (P := P) l.b ety fz news (l.base + lo * row.sz + k * i.size) 0 w arr g1 (by rw [hs.cnt, hsz]; omega) (fun j hj1 hj2 => g4 j (by omega) (by rw [hs.cnt, hsz] at hj2; omega)) hs.one
      have hrun := dQ (P := P) (ty := o.type) (b := l.b) (o := l.base + lo * row.sz) (sLen := k) (sCap := cap) ht hu hi hs hfit
      rw [s1] at hrun
      simp only [Result.andThen_ok] at hrun
      rw [← hv] at hrun
      have hsw := h.swap hr hm (hT t0 rfl) t' ht' s2 ⟨i.size, true, row.cs.drop lo ++ ys⟩ ⟨l.b, l.base + lo * i.size, l.room - lo * i.size⟩ (fun k' hk' => by
       obtain ⟨_, hx2⟩ := hte k' hk'
       obtain ⟨hl0, hk0⟩ := hx2 t0 lo k rfl
       obtain ⟨b1, arr0, fz0, b2, _⟩ := hrr.ty k' hk0 l hm
       rw [g1] at b2
       cases b2
       exact ⟨by rw [hl0, b1]; simp, arr', fz, s4⟩) rfl h0 (fun y hy => by
       rcases List.mem_append.1 hy with hy | hy
       ·exact hos.el y hy
       ·exact hs.el y hy) rfl ⟨arr', ety, fz, s4, by rw [s5]; show l.base + lo * i.size + (l.room - lo * i.size) ≤ _; omega, by
        show (row.cs.drop lo ++ ys).length * i.size ≤ l.room - lo * i.size
        rw [List.length_append, hdl, Nat.add_mul]; omega, fun j hj1 hj2 => g4 j (by simp only at hj1; omega) (by simp only at hj2; omega), fun i' y j q hi' hj => by
        show ∃ v, arr'[l.base + lo * i.size + (i' * i.size + j)]? = some v ∧ _
        have hi'' : (row.cs.drop lo ++ ys)[i']? = some y := hi'
        obtain ⟨hjl, _⟩ := List.getElem?_eq_some_iff.1 hj
        rw [s6, hsz]
        by_cases hil : i' < k
        ·rw [List.getElem?_append_left (by omega)] at hi''
         rw [if_neg ?_]
         ·rw [List.getElem?_drop] at hi''
          obtain ⟨v', hv', hcr⟩ := g5 (lo + i') y j q hi'' hj
          unfold D6 at hcr
          rw [hpr, if_pos rfl] at hcr
          refine ⟨v', ?_, hcr⟩
          rw [← hv', hsz, Nat.add_mul]
          congr 1
          omega
         ·have hyl := (hos.el y (List.mem_of_getElem? hi'')).1
          have : (i' + 1) * i.size ≤ k * i.size := Nat.mul_le_mul_right _ hil
          rw [Nat.add_mul] at this
          omega
        ·rw [List.getElem?_append_right (by omega), hdl] at hi''
         obtain ⟨v', hv', hr0⟩ := hs.rel _ y j q hi'' hj
         obtain ⟨hvl, _⟩ := List.getElem?_eq_some_iff.1 hv'
         have hsplit : i' * i.size = k * i.size + (i' - k) * i.size := by rw [← Nat.add_mul]; congr 1; omega
         refine ⟨v', ?_, hr0⟩
         rw [if_pos (by rw [hsplit]; omega), ← hv']
         congr 1
         rw [hsplit]
         omega⟩
      refine ⟨_, w', .inl ⟨_, lift hrun, rfl⟩, _, hsw.put o.dst hd ?_⟩
      have := D8.slr (w := w') (O := Av O (upd μ t' (some ⟨l.b, l.base + lo * i.size, l.room - lo * i.size⟩)) (upd (MK t0 st.r) t' (some ⟨i.size, true, row.cs.drop lo ++ ys⟩))) (μ := upd μ t' (some ⟨l.b, l.base + lo * i.size, l.room - lo * i.size⟩))
       (R := upd (MK t0 st.r) t' (some ⟨i.size, true, row.cs.drop lo ++ ys⟩)) t' 0 (k + ys.length) cap ⟨i.size, true, row.cs.drop lo ++ ys⟩ ⟨l.b, l.base + lo * i.size, l.room - lo * i.size⟩ (upd_same _ _ _) (upd_same _ _ _)
       (by simp only [List.length_append, hdl]; omega) hfit (by show (0 + cap) * i.size ≤ l.room - lo * i.size; rw [Nat.zero_add]; omega)
      simp only [Nat.zero_mul, Nat.add_zero] at this
      rw [hsz]
      exact this
     ·-- beyond it
      have hrun := VO (P := P) (ty := o.type) (sLen := k) (sCap := cap) ht hu hi hz rfl hos hdl hs (by omega) (by omega) (growslice_fits (by omega) hb)
      rw [← hv] at hrun
      have hge := grownCap_ge w (k + ys.length) cap e
      have := fO (P := P) (o := o) hd h (h.kill t0 (hT t0 rfl)) (fun b hb => vR hb) h0 hos hs (Builtin.zeroCells z.cells (grownCap w (k + ys.length) cap e - (k + ys.length))).toList t' hkn (e := e) (fun k hk => (hte k hk).1) (c := grownCap w (k + ys.length) cap e) (by rw [hdl]; exact hge) (by
       rw [List.length_append, hzc, List.length_append, hos.cnt, hs.cnt, hdl, ← Nat.add_mul, ← Nat.add_mul, Nat.add_sub_cancel' hge]) (lift (by rw [hrun, hdl, Du]))
      rw [hdl] at this
      exact this
   ·cases hbase
theorem yV [BA] {o : Oper} {e0 sz bytes : Nat} {x y : DD} (hc : SN P o = some (.app e0 sz bytes x y)) (hd : ∀ d, o.dst = some d → d < n) (h : BJ w0 O L n μ st a w) {p q : PV} (hp : x.ev st.s = some p) (hq : y.ev st.s = some q)
  {tok : Option Nat} {xs ys : List PV} (hb : VT st.r sz p = some (tok, xs)) (hT : ∀ t, tok = some t → L.T t = false) (he : UR st.r sz q = some ys) (hb0 : 0 < bytes) (hle : (xs.length + ys.length) * bytes ≤ 140737488355328) (t' : Nat) (ht' : st.r t' = none) (hty : UZ t' e0 p = true) :
  ∃ a' w', Done P o a w a' w' ∧ ∃ μ', BJ w0 O L n μ' (St.put (XX st tok t' ⟨sz, true, xs ++ ys⟩) o.dst (.slr t' 0 (xs.length + ys.length))) a' w' := by
 cases JJ hc with
 | app c x' y' t u e e' i z _ _ ho hcal ha hat ht hu hi hz hzs h0 hbb hx hy =>
  obtain ⟨news, hs⟩ := l6 (P := P) h.rows (CR h.slots hy hq) he
  exact ZC ho hcal ha hat ht (.inr ⟨e', hu⟩) hi hz hzs h0 hd h (CR h.slots hx hp) hb hT hs hb0 hle t' ht' hty
theorem yU [BA] {o : Oper} {e0 : Nat} {x y : DD} (hc : SN P o = some (.aps e0 x y)) (hd : ∀ d, o.dst = some d → d < n) (h : BJ w0 O L n μ st a w) {p : PV} {s : List UInt8} (hp : x.ev st.s = some p) (hq : y.ev st.s = some (.str s))
  {tok : Option Nat} {xs : List PV} (hb : VT st.r 1 p = some (tok, xs)) (hT : ∀ t, tok = some t → L.T t = false) (hle : xs.length + s.length ≤ 140737488355328) (t' : Nat) (ht' : st.r t' = none) (hty : UZ t' e0 p = true) :
  ∃ a' w', Done P o a w a' w' ∧ ∃ μ', BJ w0 O L n μ' (St.put (XX st tok t' ⟨1, true, xs ++ JN s⟩) o.dst (.slr t' 0 (xs.length + s.length))) a' w' := by
 cases JJ hc with
 | aps c x' y' t u e i z _ _ ho hcal ha hat ht hu hi hz hzs h1 hb1 hx hy =>
  have hv := (CR h.slots hy hq).str_inv
  have hbs : (⟨s.toArray⟩ : ByteArray).size = s.length := List.size_toArray
  have hs : SS P w (Av O μ st.r) 1 (JN s) (a.eval y') (s.map fun b => Value.int .u8 (b.toNat : Int)) := by
   rw [hv]
   refine ⟨fun w' => by simp [Builtin.lenOf, hbs, JN], fun w' _ => ?_, by simp [JN], fun q hq => ?_, fun i x j q hi hj => ?_, fun u hu => ?_⟩
   ·rw [NT]
    simp only [Builtin.firstCells, Sem.run_pure]
    congr 1
    have : (⟨s.toArray⟩ : ByteArray).extract 0 s.length = ⟨s.toArray⟩ := by
     apply ByteArray.ext
     rw [ByteArray.data_extract]
     simp
    rw [this]
    simp
   ·obtain ⟨b, _, rfl⟩ := List.mem_map.1 hq
    exact ⟨rfl, fun c hc => by simp [PV.cells] at hc; subst hc; rfl⟩
   ·unfold JN at hi
    rw [List.getElem?_map] at hi
    obtain ⟨b, hb', rfl⟩ := Option.map_eq_some_iff.1 hi
    cases j with
    | succ j => simp [PV.cells] at hj
    | zero =>
     simp [PV.cells] at hj
     subst hj
     exact ⟨_, by simp [hb'], .int _ _⟩
   ·obtain ⟨b, _, rfl⟩ := List.mem_map.1 hu
    rfl
  have := ZC (P := P) (ys := JN s) ho hcal ha hat ht (.inl hu) hi hz hzs (by omega) hd h (CR h.slots hx hp) (by rw [h1]; exact hb) hT (by rw [h1]; exact hs) (by omega) (by rw [hb1, NT]; omega) t' ht' hty
  rw [h1, NT] at this
  exact this
end
mutual
def PV.nosl : PV → Bool
 | .sl _ [] => true
 | .sl _ (_ :: _) => false
 | .ep _ => false
 | .agg cs => PV.nosls cs
 | .tup cs => PV.nosls cs
 | .clo _ cs => PV.nosls cs
 | .ifc _ v => PV.nosl v
 | _ => true
def PV.nosls : List PV → Bool
 | [] => true
 | p :: r => PV.nosl p && PV.nosls r
end
theorem PV.nosls_mem [BA] : ∀ {l : List PV}, PV.nosls l = true → ∀ p ∈ l, p.nosl = true
 | [], _, p, hp => by cases hp
 | q :: r, h, p, hp => by
  rw [PV.nosls, Bool.and_eq_true] at h
  rcases List.mem_cons.1 hp with e | e
  ·rw [e]; exact h.1
  ·exact PV.nosls_mem h.2 p e
theorem PV.nosl_cells [BA] {p : PV} (h : p.nosl = true) : ∀ q ∈ p.cells, q.nosl = true := by
 cases p <;> intro q hq <;> simp only [PV.cells, List.mem_singleton] at hq
 case agg cs => exact PV.nosls_mem (by simpa [PV.nosl] using h) q hq
 all_goals (subst hq; exact h)
section
variable {w : World} {O O' : Nat → Prop} {μ : Mu} {R : Rows}
theorem DZ.nosl [BA] {p : PV} {v : Value} (h : DZ w O p v) (hp : p.nosl = true) : DZ w O' p v := by
 induction h with
 | any v h => exact .any v h
 | undef => exact .undef
 | int k n => exact .int k n
 | bool b => exact .bool b
 | str s => exact .str s
 | nl => exact .nl
 | sl0 sz A c => exact .sl0 sz A c
 | sl sz xs b o c V ho hx hc hz hs h1 h2 ih =>
  cases xs with
  | nil => exact absurd rfl hx
  | cons => simp [PV.nosl] at hp
 | ep cs b o V ho hx hs h1 h2 ih => simp [PV.nosl] at hp
 | nilp => exact .nilp
 | clo f caps vs hl h ih => exact .clo f caps vs hl fun j p v hj hv => ih j p v hj hv (PV.nosls_mem (by simpa [PV.nosl] using hp) p (List.mem_of_getElem? hj))
 | nilf => exact .nilf
 | agg cs vs hl hs h ih => exact .agg cs vs hl hs fun j p v hj hv => ih j p v hj hv (PV.nosls_mem (by simpa [PV.nosl] using hp) p (List.mem_of_getElem? hj))
 | tup cs vs hl h ih => exact .tup cs vs hl fun j p v hj hv => ih j p v hj hv (PV.nosls_mem (by simpa [PV.nosl] using hp) p (List.mem_of_getElem? hj))
 | nili => exact .nili
 | ifc t p v h ih => exact .ifc t p v (ih (by simpa [PV.nosl] using hp))
 | errN k => exact .errN k
 | errS k v => exact .errS k v
theorem D8.nosl [BA] {p : PV} {v : Value} (h : D8 w O μ R p v) (hp : p.nosl = true) : D8 w O' μ R p v := by
 induction h with
 | base p v h => exact .base _ _ (h.nosl hp)
 | slr t lo n c row l hr hm hn hc hroom => exact .slr t lo n c row l hr hm hn hc hroom
 | slr0 t lo row A hr hn => exact .slr0 t lo row A hr hn
 | ptr t i off row l hr hm hi ho => exact .ptr t i off row l hr hm hi ho
 | clo g caps vs hl h ih => exact .clo g caps vs hl fun j p v hj hv => ih j p v hj hv (PV.nosls_mem (by simpa [PV.nosl] using hp) p (List.mem_of_getElem? hj))
 | agg cs vs hl hs h ih => exact .agg cs vs hl hs fun j p v hj hv => ih j p v hj hv (PV.nosls_mem (by simpa [PV.nosl] using hp) p (List.mem_of_getElem? hj))
 | tup cs vs hl h ih => exact .tup cs vs hl fun j p v hj hv => ih j p v hj hv (PV.nosls_mem (by simpa [PV.nosl] using hp) p (List.mem_of_getElem? hj))
theorem LZ.nosl [BA] {t : Nat} {row : Row} (h : LZ w O μ R t row) (hp : ∀ x ∈ row.cs, x.nosl = true) : LZ w O' μ R t row := by
 refine ⟨h.sz, h.el, h.non, fun l hl => ?_, h.ty⟩
 obtain ⟨arr, ety, fz, h1, h2, h3, h4, h5⟩ := h.lie l hl
 refine ⟨arr, ety, fz, h1, h2, h3, h4, fun i x j p hi hj => ?_⟩
 obtain ⟨v, hv, hc⟩ := h5 i x j p hi hj
 have hn := PV.nosl_cells (hp x (List.mem_of_getElem? hi)) p (List.mem_of_getElem? hj)
 refine ⟨v, hv, ?_⟩
 unfold D6 at *
 split
 ·rename_i hpr; rw [if_pos hpr] at hc; exact hc.nosl hn
 ·rename_i hpr; rw [if_neg hpr] at hc; exact hc.nosl hn
end
structure U9 [BA] (w : World) (O : Nat → Prop) (μ : Mu) (R : Rows) : Prop where
 row : ∀ t row, R t = some row → LZ w (Av O μ R) μ R t row
 inj : ∀ t t' row row' l l', R t = some row → R t' = some row' → μ t = some l → μ t' = some l' → l.b = l'.b → t = t'
 own : ∀ t row l, R t = some row → μ t = some l → ¬ O l.b ∧ ¬ BA.B l.b
def Sat [BA] (P : Program) (f : FuncId) (Ri : Rows) (ps : List PV) (res : PV) (Ro : Rows) : Prop :=
 ∀ (O : Nat → Prop) (μ : Mu) (w : World) (vs : List Value), Og w O → U9 w O μ Ri → EK w (Av O μ Ri) μ Ri ps vs →
  Calls P f vs.toArray w fun e w' => ∃ v μ', e = .returned v ∧ Fr (OM μ Ri) w w' ∧ U9 w' O μ' Ro ∧
   (∀ t row, Ri t = some row → μ' t = μ t ∧ ∃ row', Ro t = some row' ∧ row'.sz = row.sz ∧ row'.cs.length = row.cs.length) ∧
   (∀ t row l, Ro t = some row → Ri t = none → μ' t = some l → w.heap.size ≤ l.b) ∧ D8 w' (Av O μ' Ro) μ' Ro res v
def AC : Rows := fun _ => none
def N7 (N R : Rows) : Rows := fun t => match N t with
 | some r => some r
 | none => R t
def bs (Ri R : Rows) : Nat → Nat → Nat → PV := fun t lo n => match Ri t with
 | some _ => .slr t lo n
 | none => match R t with
  | some row => bif row.pr then .sl row.sz ((row.cs.drop lo).take n) else .any
  | none => .any
def bp (Ri R : Rows) : Nat → Nat → Nat → PV := fun t i o => match Ri t with
 | some _ => .ptr t i o
 | none => match R t with
  | some row => match row.cs[i]? with
   | some x => bif x.cells.all PV.free && Nat.blt o x.cells.length then .ep (x.cells.drop o) else .any
   | none => .any
  | none => .any
def PV.bor (Ri R : Rows) (p : PV) : PV := p.map (bs Ri R) (bp Ri R)
theorem j4 (Ri R : Rows) (t lo n : Nat) : (bs Ri R t lo n).one = true := by
 unfold bs
 cases Ri t with
 | some => rfl
 | none => cases R t with
  | none => rfl
  | some row => cases h : row.pr <;> simp [PV.one, h]
theorem j5 (Ri R : Rows) (t lo n : Nat) : (bp Ri R t lo n).one = true := by
 unfold bp
 cases Ri t with
 | some => rfl
 | none =>
  simp only
  cases R t with
  | none => rfl
  | some row =>
   simp only
   cases row.cs[lo]? with
   | none => rfl
   | some x => simp only; cases (x.cells.all PV.free && Nat.blt n x.cells.length) <;> rfl
section
variable {w0 w : World} {O : Nat → Prop} {L : MN} {n : Nat} {μ : Mu} {P : Program} {st : St} {a : Act}
structure NV (st : St) (Ri Ro : Rows) : Prop where
 sub : ∀ t row, Ri t = some row → st.r t = some row ∧ row.tk (fun u => (Ri u).isSome) = true
 fresh : ∀ t row, Ro t = some row → Ri t = none → st.r t = none
def dF (Ri : Rows) (ps : List PV) (res : PV) (Ro : Rows) : Prop :=
 (∀ p ∈ ps, p.tk (fun u => (Ri u).isSome) = true) ∨ (res.nosl = true ∧ ∀ t row, Ro t = some row → ∀ x ∈ row.cs, x.nosl = true)
theorem YA [BA] {R : Rows} {O : Nat → Prop} {t lo n : Nat} {row : Row} {v : Value} (hR : PO w O μ R) (hr : R t = some row) (hpr : row.pr = true) (h : D8 w O μ R (.slr t lo n) v) {O' : Nat → Prop} (hO : ∀ b, O' b → O b)
  (hown : ∀ l, μ t = some l → ¬ O' l.b) : DZ w O' (.sl row.sz ((row.cs.drop lo).take n)) v := by
 cases h with
 | base _ _ h => cases h
 | slr0 _ _ row' A hr' hn => rw [List.take_zero]; exact .sl0 _ _ _
 | slr _ _ _ c row' l hr' hm hn hc hroom =>
  rw [hr] at hr'
  cases hr'
  have hlen : ((row.cs.drop lo).take n).length = n := by simp; omega
  by_cases h0 : n = 0
  ·subst h0; rw [List.take_zero]; exact .sl0 _ _ _
  ·have hrr := hR t row hr
   have hlie := hrr.lie l hm
   have hex : ∃ V : Nat → Nat → Value, ∀ (i : Nat) (x : PV) (j : Nat) (p : PV), ((row.cs.drop lo).take n)[i]? = some x → x.cells[j]? = some p →
     w.cell? ⟨l.b, l.base + lo * row.sz + (i * row.sz + j), none⟩ = some (V i j) ∧ DZ w O p (V i j) := by
    refine ⟨fun i j => (w.cell? ⟨l.b, l.base + lo * row.sz + (i * row.sz + j), none⟩).getD Go.undef, fun i x j p hi hj => ?_⟩
    rw [List.getElem?_take] at hi
    split at hi
    ·rw [List.getElem?_drop] at hi
     obtain ⟨u, hu, hcr⟩ := hlie.cell hi hj
     unfold D6 at hcr
     rw [hpr, if_pos rfl] at hcr
     have he : l.base + ((lo + i) * row.sz + j) = l.base + lo * row.sz + (i * row.sz + j) := by rw [Nat.add_mul]; omega
     rw [he] at hu
     simp only [hu, Option.getD_some]
     exact ⟨trivial, hcr⟩
    ·cases hi
   obtain ⟨V, hV⟩ := hex
   have := DZ.sl (w := w) (O := O') row.sz ((row.cs.drop lo).take n) l.b (l.base + lo * row.sz) c V (hown l hm) (fun e => by rw [e] at hlen; simp at hlen; omega) (by omega) hrr.sz
    (fun x hx => hrr.el x (List.mem_of_mem_drop (List.mem_of_mem_take hx))) (fun i x j p hi hj => (hV i x j p hi hj).1) (fun i x j p hi hj => ((hV i x j p hi hj).2).frame (fun _ _ _ => rfl) (fun b _ hb => hO b hb))
   rw [hlen] at this
   exact this
theorem oU [BA] {R : Rows} {O : Nat → Prop} {t i o : Nat} {row : Row} {x : PV} {v : Value} (hR : PO w O μ R) (hr : R t = some row) (hx : row.cs[i]? = some x) (hfree : x.cells.all PV.free = true) (hlt : Nat.blt o x.cells.length = true)
  (h : D8 w O μ R (.ptr t i o) v) {O' : Nat → Prop} (hO : ∀ b, O' b → O b) (hown : ∀ l, μ t = some l → ¬ O' l.b) : DZ w O' (.ep (x.cells.drop o)) v := by
 have hlt : o < x.cells.length := by simpa [Nat.blt_eq] using hlt
 cases h with
 | base _ _ h => cases h
 | ptr _ _ _ row' l hr' hm hi ho =>
  rw [hr] at hr'
  cases hr'
  have hrr := hR t row hr
  have hlie := hrr.lie l hm
  have hxm := hrr.el x (List.mem_of_getElem? hx)
  have hex : ∀ (j : Nat) (p : PV), (x.cells.drop o)[j]? = some p → ∃ u, w.cell? ⟨l.b, l.base + (i * row.sz + o) + j, none⟩ = some u ∧ DZ w O p u := by
   intro j p hj
   rw [List.getElem?_drop] at hj
   obtain ⟨u, hu, hcr⟩ := hlie.cell hx hj
   have hf : p.free = true := List.all_eq_true.1 hfree p (List.mem_of_getElem? hj)
   refine ⟨u, ?_, hcr.rel.free hf⟩
   rw [← hu]
   congr 2
   omega
  refine .ep (x.cells.drop o) l.b (l.base + (i * row.sz + o)) (fun j => (w.cell? ⟨l.b, l.base + (i * row.sz + o) + j, none⟩).getD Go.undef) (hown l hm) (fun e => ?_) (fun p hp => hxm.2 p (List.mem_of_mem_drop hp)) (fun j p hj => ?_) (fun j p hj => ?_)
  ·have := congrArg List.length e
   simp at this
   omega
  ·obtain ⟨u, hu, _⟩ := hex j p hj
   simp only [hu, Option.getD_some]
  ·obtain ⟨u, hu, hr0⟩ := hex j p hj
   simp only [hu, Option.getD_some]
   exact hr0.frame (fun _ _ _ => rfl) (fun b _ hb => hO b hb)
def rest (O : Nat → Prop) (μ : Mu) (R Ri : Rows) (b : Nat) : Prop := O b ∨ ∃ t row l, R t = some row ∧ Ri t = none ∧ μ t = some l ∧ l.b = b
theorem gG [BA] {f : FuncId} {Ri Ro : Rows} {ps : List PV} {res : PV} {vs : List Value} (h : BJ w0 O L n μ st a w) (hok : NV st Ri Ro) (hfree : dF Ri ps res Ro)
  (hsat : Sat P f Ri (ps.map (PV.bor Ri st.r)) res Ro) (hv : EK w (Av O μ st.r) μ st.r ps vs) (dst : Option Nat) (hd : ∀ d, dst = some d → d < n) {K : Act → World → Prop}
  (hK : ∀ μ' v w', BJ w0 O L n μ' (St.put ⟨st.s, N7 Ro st.r⟩ dst res) (a.put dst v) w' → K (a.put dst v) w') :
  Calls P f vs.toArray w fun e w' => ∃ v, e = .returned v ∧ K (a.put dst v) w' := by
 have hRiR : ∀ b, OM μ Ri b → OM μ st.r b := by
  rintro b ⟨t, row, l, h1, h2, h3⟩
  exact ⟨t, row, l, (hok.sub t row h1).1, h2, h3⟩
 have hO0 : ∀ b, O b → b < w.heap.size := fun b hb => Nat.lt_of_lt_of_le (h.out.lt b hb) h.fr.size
 have hrestlt : ∀ b, rest O μ st.r Ri b → b < w.heap.size := by
  rintro b (h1 | ⟨t, row, l, h1, _, h3, h4⟩)
  ·exact hO0 b h1
  ·rw [← h4]; exact h.block_lt h1 h3
 have main : ∀ (Oc : Nat → Prop), Og w Oc → (∀ b, Oc b → rest O μ st.r Ri b) → (∀ p ∈ ps, p.tk (fun u => (Ri u).isSome) = true ∨ ∀ b, Oc b → O b) →
   (∀ (μ' : Mu) (w' : World) (v : Value), Fr (OM μ Ri) w w' → U9 w' Oc μ' Ro → D8 w' (Av Oc μ' Ro) μ' Ro res v → (∀ b, b < w'.heap.size → ¬ Av Oc μ' Ro b → rest O μ st.r Ri b → False) ∨
    (res.nosl = true ∧ ∀ t row, Ro t = some row → ∀ x ∈ row.cs, x.nosl = true)) →
   Calls P f vs.toArray w fun e w' => ∃ v, e = .returned v ∧ K (a.put dst v) w' := by
  intro Oc hOc hsub hps hav
  have hInR : U9 w Oc μ Ri := by
   refine ⟨fun t row ht => ?_, fun t t' row row' l l' h1 h2 => h.inj t t' row row' l l' (hok.sub t row h1).1 (hok.sub t' row' h2).1, fun t row l h1 h2 => ⟨fun hc => ?_, h.noB (hok.sub t row h1).1 h2⟩⟩
   ·obtain ⟨h1, h2⟩ := hok.sub t row ht
    refine (h.row t row h1).mono (fun u => (Ri u).isSome) (fun _ _ _ => rfl) (fun b _ hb => ?_) (fun u r hu hr => ?_) rfl (fun _ _ => rfl) h2
    ·rcases hb with hb | hb
     ·rcases hsub b hb with h3 | ⟨t', r', l', g1, _, g3, g4⟩
      ·exact .inl h3
      ·exact .inr ⟨t', r', l', g1, g3, g4⟩
     ·exact .inr (hRiR b hb)
    ·obtain ⟨r', hr'⟩ := Option.isSome_iff_exists.1 hu
     have := (hok.sub u r' hr').1
     rw [hr] at this
     cases this
     exact ⟨rfl, r, hr', rfl, Nat.le_refl _⟩
   ·have hst := (hok.sub t row h1).1
    rcases hsub _ hc with h3 | ⟨t', r', l', g1, g2, g3, g4⟩
    ·exact (h.own t row l hst h2).1 h3
    ·have := h.inj t' t r' row l' l g1 hst g3 h2 g4
     rw [this, h1] at g2
     cases g2
  have hargs : EK w (Av Oc μ Ri) μ Ri (ps.map (PV.bor Ri st.r)) vs := by
   refine ⟨by simpa using hv.len, fun j q u hj hu => ?_⟩
   rw [List.getElem?_map] at hj
   obtain ⟨p, hp, rfl⟩ := Option.map_eq_some_iff.1 hj
   have hrel := hv.rel j p u hp hu
   have hO1 : ∀ b, b < w.heap.size → Av Oc μ Ri b → Av O μ st.r b := by
    rintro b _ (hb | hb)
    ·rcases hsub b hb with h3 | ⟨t', r', l', g1, _, g3, g4⟩
     ·exact .inl h3
     ·exact .inr ⟨t', r', l', g1, g3, g4⟩
    ·exact .inr (hRiR b hb)
   rcases hps p (List.mem_of_getElem? hp) with hfr | hfr
   ·have h1 : D8 w (Av Oc μ Ri) μ Ri p u := hrel.mono (fun t => (Ri t).isSome) (fun _ _ _ => rfl) hO1 (fun t r ht hr => by
     obtain ⟨r', hr'⟩ := Option.isSome_iff_exists.1 ht
     have := (hok.sub t r' hr').1
     rw [hr] at this
     cases this
     exact ⟨rfl, r, hr', rfl, Nat.le_refl _⟩) hfr
    refine D8.map (fs := bs Ri st.r) (fp := bp Ri st.r) (fun _ _ _ => rfl) (fun _ _ h => h) (j4 _ _) (j5 _ _) (fun t lo m v hv => ?_) (fun t i o v hv => ?_) h1
    ·unfold bs
     cases hv with
     | base _ _ h => cases h
     | slr _ _ _ c row l hr hm hn hc hroom => simp only [hr]; exact .slr t lo m c row l hr hm hn hc hroom
     | slr0 _ _ row A hr hn => simp only [hr]; exact .slr0 t lo row A hr hn
    ·unfold bp
     cases hv with
     | base _ _ h => cases h
     | ptr _ _ _ row l hr hm hi ho => simp only [hr]; exact .ptr t i o row l hr hm hi ho
   ·refine D8.map (fs := bs Ri st.r) (fp := bp Ri st.r) (fun _ _ _ => rfl) hO1 (j4 _ _) (j5 _ _) (fun t lo m v hv => ?_) (fun t i o v hv => ?_) hrel
    ·unfold bs
     cases hRi : Ri t with
     | some r =>
      simp only
      have hst := (hok.sub t r hRi).1
      cases hv with
      | base _ _ h => cases h
      | slr _ _ _ c row l hr hm hn hc hroom => rw [hst] at hr; cases hr; exact .slr t lo m c r l hRi hm hn hc hroom
      | slr0 _ _ row A hr hn => rw [hst] at hr; cases hr; exact .slr0 t lo r A hRi hn
     | none =>
      simp only
      have hany : v.oneCell' = true := hv.oneCell rfl
      cases hr : st.r t with
      | none => exact .base _ _ (.any v hany)
      | some row =>
       simp only
       cases hpr : row.pr with
       | false => exact .base _ _ (.any v hany)
       | true =>
        refine .base _ _ (YA h.rows hr hpr hv (fun b hb => hO1 b ?_ hb) fun l hl hb => ?_)
        ·rcases hb with hb | ⟨t', r', l', g1, g2, g3⟩
         ·exact hOc.lt b hb
         ·rw [← g3]; exact h.block_lt (hok.sub t' r' g1).1 g2
        ·rcases hb with hb | ⟨t', r', l', g1, g2, g3⟩
         ·exact (h.own t row l hr hl).1 (hfr _ hb)
         ·have := h.inj t' t r' row l' l (hok.sub t' r' g1).1 hr g2 hl g3
          rw [this, hRi] at g1
          cases g1
    ·unfold bp
     cases hRi : Ri t with
     | some r =>
      simp only
      have hst := (hok.sub t r hRi).1
      cases hv with
      | base _ _ h => cases h
      | ptr _ _ _ row l hr hm hi ho => rw [hst] at hr; cases hr; exact .ptr t i o r l hRi hm hi ho
     | none =>
      simp only
      have hany : v.oneCell' = true := hv.oneCell rfl
      cases hr : st.r t with
      | none => exact .base _ _ (.any v hany)
      | some row =>
       simp only
       cases hx : row.cs[i]? with
       | none => exact .base _ _ (.any v hany)
       | some x =>
        simp only
        cases hfo : (x.cells.all PV.free && Nat.blt o x.cells.length) with
        | false => exact .base _ _ (.any v hany)
        | true =>
         rw [Bool.and_eq_true] at hfo
         refine .base _ _ (oU h.rows hr hx hfo.1 hfo.2 hv (fun b hb => hO1 b ?_ hb) fun l hl hb => ?_)
         ·rcases hb with hb | ⟨t', r', l', g1, g2, g3⟩
          ·exact hOc.lt b hb
          ·rw [← g3]; exact h.block_lt (hok.sub t' r' g1).1 g2
         ·rcases hb with hb | ⟨t', r', l', g1, g2, g3⟩
          ·exact (h.own t row l hr hl).1 (hfr _ hb)
          ·have := h.inj t' t r' row l' l (hok.sub t' r' g1).1 hr g2 hl g3
           rw [this, hRi] at g1
           cases g1
  refine (hsat Oc μ w vs hOc hInR hargs).mono ?_
  rintro e w' ⟨v, μ', rfl, hfr, hro, hkeep, hnew, hres⟩
  refine ⟨v, rfl, hK (fun t => match Ro t with | some _ => μ' t | none => μ t) v w' ?_⟩
  have hm1 : ∀ t r, Ro t = some r → (fun t => match Ro t with | some _ => μ' t | none => μ t) t = μ' t := fun t r hr => by simp only [hr]
  have hm2 : ∀ t, Ro t = none → (fun t => match Ro t with | some _ => μ' t | none => μ t) t = μ t := fun t hr => by simp only [hr]
  have hg1 : ∀ t r, Ro t = some r → N7 Ro st.r t = some r := fun t r hr => by simp [N7, hr]
  have hg2 : ∀ t, Ro t = none → N7 Ro st.r t = st.r t := fun t hr => by simp [N7, hr]
  generalize hμ : (fun t => match Ro t with | some _ => μ' t | none => μ t) = ν at hm1 hm2
  have hnoRo : ∀ t, Ro t = none → Ri t = none := by
   intro t ht
   cases hr : Ri t with
   | none => rfl
   | some r =>
    obtain ⟨_, r', hr', _⟩ := hkeep t r hr
    rw [ht] at hr'
    cases hr'
  have hOut : ∀ b, b < w.heap.size → Av O ν (N7 Ro st.r) b → Av O μ st.r b := by
   rintro b hb (h1 | ⟨t, r, l, h1, h2, h3⟩)
   ·exact .inl h1
   ·cases hr : Ro t with
    | none =>
     rw [hg2 t hr] at h1
     rw [hm2 t hr] at h2
     exact .inr ⟨t, r, l, h1, h2, h3⟩
    | some r' =>
     rw [hm1 t r' hr] at h2
     cases hri : Ri t with
     | none => have := hnew t r' l hr hri h2; omega
     | some r'' => exact .inr ⟨t, r'', l, (hok.sub t r'' hri).1, by rw [← (hkeep t r'' hri).1]; exact h2, h3⟩
  have hw : ∀ b, b < w.heap.size → ¬ Av O μ st.r b → w'.heap[b]? = w.heap[b]? := fun b hb hn => hfr.block b hb fun hc => hn (.inr (hRiR b hc))
  have henv : ∀ t r, true = true → st.r t = some r → ν t = μ t ∧ ∃ r', N7 Ro st.r t = some r' ∧ r'.sz = r.sz ∧ r.cs.length ≤ r'.cs.length := by
   intro t r _ hr
   cases hro' : Ro t with
   | none => exact ⟨hm2 t hro', r, by rw [hg2 t hro']; exact hr, rfl, Nat.le_refl _⟩
   | some r' =>
    cases hri : Ri t with
    | none => have := hok.fresh t r' hro' hri; rw [hr] at this; cases this
    | some r'' =>
     obtain ⟨e1, r3, e2, e3, e4⟩ := hkeep t r'' hri
     have := (hok.sub t r'' hri).1
     rw [hr] at this
     cases this
     exact ⟨by rw [hm1 t r' hro', e1], r3, hg1 t r3 e2, e3, by omega⟩
  have hRoAv : ∀ b, b < w'.heap.size → Av O ν (N7 Ro st.r) b → Av Oc μ' Ro b ∨ rest O μ st.r Ri b := by
   rintro b hb (h1 | ⟨t, r, l, h1, h2, h3⟩)
   ·exact .inr (.inl h1)
   ·cases hr : Ro t with
    | none =>
     rw [hg2 t hr] at h1
     rw [hm2 t hr] at h2
     exact .inr (.inr ⟨t, r, l, h1, hnoRo t hr, h2, h3⟩)
    | some r' =>
     rw [hm1 t r' hr] at h2
     exact .inl (.inr ⟨t, r', l, hr, h2, h3⟩)
  have hback : ∀ {p : PV} {v : Value}, D8 w' (Av Oc μ' Ro) μ' Ro p v → ((∀ b, b < w'.heap.size → ¬ Av Oc μ' Ro b → rest O μ st.r Ri b → False) ∨ p.nosl = true) → D8 w' (Av O ν (N7 Ro st.r)) ν (N7 Ro st.r) p v := by
   intro p v hrel hc
   have env2 : ∀ t r, true = true → Ro t = some r → ν t = μ' t ∧ ∃ r', N7 Ro st.r t = some r' ∧ r'.sz = r.sz ∧ r.cs.length ≤ r'.cs.length := fun t r _ hr => ⟨hm1 t r hr, r, hg1 t r hr, rfl, Nat.le_refl _⟩
   rcases hc with hc | hc
   ·refine hrel.mono (fun _ => true) (fun _ _ _ => rfl) (fun b hb hav' => ?_) env2 (PV.tk_true _)
    rcases hRoAv b hb hav' with h1 | h1
    ·exact h1
    ·rcases Classical.em (Av Oc μ' Ro b) with h2 | h2
     ·exact h2
     ·exact (hc b hb h2 h1).elim
   ·exact ((hrel.mono (fun _ => true) (fun _ _ _ => rfl) (fun _ _ h => h) env2 (PV.tk_true _)).nosl hc)
  have hcase := hav μ' w' v hfr hro hres
  have hst : BJ w0 O L n ν ⟨st.s, N7 Ro st.r⟩ a w' := by
   refine ⟨h.dfr, h.size, h.fr.trans hfr (fun x hx hc => ?_), h.out, fun k q hk => ?_, fun t r hr => ?_, ?_, ?_, fun t hT => ?_⟩
   ·obtain ⟨t, r, l, h1, h2, h3⟩ := hRiR x hc
    rcases (h.own t r l h1 h2).2 with h4 | h4
    ·omega
    ·rw [← h3]; exact h4
   ·obtain ⟨u, hu, hrel⟩ := h.slot k q hk
    exact ⟨u, hu, hrel.mono (fun _ => true) hw hOut henv (PV.tk_true _)⟩
   ·cases hro' : Ro t with
    | none =>
     have hr' : st.r t = some r := by rw [← hg2 t hro']; exact hr
     refine (h.row t r hr').mono (fun _ => true) hw hOut henv (hm2 t hro') (fun l hl => hfr.block _ (h.block_lt hr' hl) ?_) (Row.tk_true _)
     rintro ⟨t', r', l', g1, g2, g3⟩
     have := h.inj t' t r' r l' l (hok.sub t' r' g1).1 hr' g2 hl g3
     rw [this, hnoRo t hro'] at g1
     cases g1
    | some r' =>
     have : r' = r := by
      have h1 := hg1 t r' hro'
      have hr2 : N7 Ro st.r t = some r := hr
      rw [h1] at hr2
      exact Option.some.inj hr2
     subst this
     have hrr := hro.row t r' hro'
     refine ⟨hrr.sz, hrr.el, fun hn => hrr.non (by rw [hm1 t r' hro'] at hn; exact hn), fun l hl => ?_, fun k hk l hl => hrr.ty k hk l (by rw [hm1 t r' hro'] at hl; exact hl)⟩
     rw [hm1 t r' hro'] at hl
     obtain ⟨arr, ety, fz, g1, g2, g3, g4, g5⟩ := hrr.lie l hl
     refine ⟨arr, ety, fz, g1, g2, g3, g4, fun i x j p hi hj => ?_⟩
     obtain ⟨u, hu, hc⟩ := g5 i x j p hi hj
     refine ⟨u, hu, ?_⟩
     have hcond : (∀ b, b < w'.heap.size → ¬ Av Oc μ' Ro b → rest O μ st.r Ri b → False) ∨ p.nosl = true := hcase.imp id fun hc => PV.nosl_cells (hc.2 t r' hro' x (List.mem_of_getElem? hi)) p (List.mem_of_getElem? hj)
     unfold D6 at hc ⊢
     split
     ·rename_i hpr
      rw [if_pos hpr] at hc
      rcases hcond with h1 | h1
      ·refine hc.frame (fun _ _ _ => rfl) (fun b hb hav' => ?_)
       rcases hRoAv b hb hav' with h2 | h2
       ·exact h2
       ·rcases Classical.em (Av Oc μ' Ro b) with h3 | h3
        ·exact h3
        ·exact (h1 b hb h3 h2).elim
      ·exact hc.nosl h1
     ·rename_i hpr
      rw [if_neg hpr] at hc
      exact hback hc hcond
   ·intro t t' r r' l l' h1 h2 h3 h4 h5
    have key : ∀ t r l, N7 Ro st.r t = some r → ν t = some l → (Ro t = none ∧ st.r t = some r ∧ μ t = some l) ∨ (∃ r', Ro t = some r' ∧ μ' t = some l ∧ (w.heap.size ≤ l.b ∨ ∃ r'', st.r t = some r'' ∧ μ t = some l)) := by
     intro t r l h1 h2
     cases hr : Ro t with
     | none => exact .inl ⟨rfl, by rw [← hg2 t hr]; exact h1, by rw [← hm2 t hr]; exact h2⟩
     | some r' =>
      rw [hm1 t r' hr] at h2
      cases hri : Ri t with
      | none => exact .inr ⟨r', rfl, h2, .inl (hnew t r' l hr hri h2)⟩
      | some r'' => exact .inr ⟨r', rfl, h2, .inr ⟨r'', (hok.sub t r'' hri).1, by rw [← (hkeep t r'' hri).1]; exact h2⟩⟩
    rcases key t r l h1 h3 with ⟨e1, e2, e3⟩ | ⟨s, e1, e2, e3⟩
    ·rcases key t' r' l' h2 h4 with ⟨f1, f2, f3⟩ | ⟨s', f1, f2, f3⟩
     ·exact h.inj t t' r r' l l' e2 f2 e3 f3 h5
     ·rcases f3 with f3 | ⟨r2, f3, f4⟩
      ·have := h.block_lt e2 e3; omega
      ·exact h.inj t t' r r2 l l' e2 f3 e3 f4 h5
    ·rcases key t' r' l' h2 h4 with ⟨f1, f2, f3⟩ | ⟨s', f1, f2, f3⟩
     ·rcases e3 with e3 | ⟨r2, e3, e4⟩
      ·have := h.block_lt f2 f3; omega
      ·exact h.inj t t' r2 r' l l' e3 f2 e4 f3 h5
     ·exact hro.inj t t' s s' l l' e1 f1 e2 f2 h5
   ·intro t r l h1 h2
    cases hr : Ro t with
    | none =>
     exact h.own t r l (by rw [← hg2 t hr]; exact h1) (by rw [← hm2 t hr]; exact h2)
    | some r' =>
     rw [hm1 t r' hr] at h2
     cases hri : Ri t with
     | none =>
      have := hnew t r' l hr hri h2
      have h5 := h.fr.size
      exact ⟨fun hc => by have := h.out.lt _ hc; omega, .inl (by omega)⟩
     | some r'' => exact h.own t r'' l (hok.sub t r'' hri).1 (by rw [← (hkeep t r'' hri).1]; exact h2)
   ·obtain ⟨g1, r, g2⟩ := h.keep t hT
    cases hr : Ro t with
    | none => exact ⟨(hm2 t hr).trans g1, r, (hg2 t hr).trans g2⟩
    | some r' =>
     refine ⟨?_, r', hg1 t r' hr⟩
     cases hri : Ri t with
     | none => have := hok.fresh t r' hr hri; rw [g2] at this; cases this
     | some r'' => rw [hm1 t r' hr, (hkeep t r'' hri).1]; exact g1
  have hr2 := hback hres (hcase.imp id fun hc => hc.1)
  exact hst.put dst hd hr2
 rcases hfree with hfree | hfree
 ·refine main (rest O μ st.r Ri) ⟨hrestlt, h.og.ok⟩ (fun _ h => h) (fun p hp => .inl (hfree p hp)) (fun μ' w' v _ _ _ => .inl fun b _ h1 h2 => h1 (.inl h2))
 ·exact main O h.og (fun b hb => .inl hb) (fun p hp => .inr fun b hb => hb) (fun μ' w' v _ _ _ => .inr hfree)
end
def kpS (C : Nat → Bool) : Nat → Nat → Nat → PV := fun u lo n => bif C u then .any else .slr u lo n
def kpP (C : Nat → Bool) : Nat → Nat → Nat → PV := fun u i o => bif C u then .any else .ptr u i o
def PV.killP (C : Nat → Bool) (p : PV) : PV := p.map (kpS C) (kpP C)
def Row.killP (C : Nat → Bool) (r : Row) : Row := bif r.pr then r else ⟨r.sz, r.pr, r.cs.map (PV.killP C)⟩
def iN (C : Nat → Bool) (s : EY) : EY := fun k => (s k).map (PV.killP C)
def I9 (C : Nat → Bool) (r : Rows) : Rows := fun u => bif C u then none else (r u).map (Row.killP C)
theorem iL (C : Nat → Bool) (u lo n : Nat) : (kpS C u lo n).one = true := by unfold kpS; cases C u <;> rfl
theorem iM (C : Nat → Bool) (u lo n : Nat) : (kpP C u lo n).one = true := by unfold kpP; cases C u <;> rfl
theorem PV.killP_one [BA] {C : Nat → Bool} {p : PV} (h : p.one = true) : (p.killP C).one = true := PV.map_one (iL C) (iM C) p h
theorem PV.killP_cells [BA] (C : Nat → Bool) (p : PV) : (p.killP C).cells = p.cells.map (PV.killP C) := PV.map_cells (iL C) (iM C) p
theorem Row.killP_sz (C : Nat → Bool) (r : Row) : (r.killP C).sz = r.sz := by unfold Row.killP; cases r.pr <;> rfl
theorem Row.killP_pr (C : Nat → Bool) (r : Row) : (r.killP C).pr = r.pr := by unfold Row.killP; cases h : r.pr <;> simp [h]
theorem Row.killP_len (C : Nat → Bool) (r : Row) : (r.killP C).cs.length = r.cs.length := by unfold Row.killP; cases r.pr <;> simp
section
variable {w w' : World} {O O' : Nat → Prop} {μ μ' : Mu} {R R' : Rows}
theorem D8.killedP [BA] (C : Nat → Bool) (hw : ∀ b, b < w.heap.size → ¬ O b → w'.heap[b]? = w.heap[b]?) (hO : ∀ b, b < w.heap.size → O' b → O b)
  (hR : ∀ u row, C u = false → R u = some row → μ' u = μ u ∧ ∃ row', R' u = some row' ∧ row'.sz = row.sz ∧ row'.cs.length = row.cs.length) {p : PV} {v : Value} (h : D8 w O μ R p v) : D8 w' O' μ' R' (p.killP C) v := by
 refine D8.map (fs := kpS C) (fp := kpP C) hw hO (iL C) (iM C) (fun u lo n v h => ?_) (fun u i o v h => ?_) h
 ·unfold kpS
  cases hu : C u with
  | true =>
   refine .base _ _ (.any v ?_)
   cases h with
   | base _ _ h => cases h
   | slr => rfl
   | slr0 => rfl
  | false =>
   cases h with
   | base _ _ h => cases h
   | slr _ _ _ c row l hr hm hn hc hroom =>
    obtain ⟨h1, row', h2, h3, h4⟩ := hR u row hu hr
    rw [← h3]
    exact .slr u lo n c row' l h2 (h1.trans hm) (by omega) hc (by rw [h3]; exact hroom)
   | slr0 _ _ row A hr hn =>
    obtain ⟨h1, row', h2, h3, h4⟩ := hR u row hu hr
    exact .slr0 u lo row' A h2 (by omega)
 ·unfold kpP
  cases hu : C u with
  | true =>
   refine .base _ _ (.any v ?_)
   cases h with
   | base _ _ h => cases h
   | ptr => rfl
  | false =>
   cases h with
   | base _ _ h => cases h
   | ptr _ _ _ row l hr hm hi ho =>
    obtain ⟨h1, row', h2, h3, h4⟩ := hR u row hu hr
    rw [← h3]
    exact .ptr u i o row' l h2 (h1.trans hm) (by omega) (by omega)
theorem LZ.killedP [BA] (C : Nat → Bool) (hw : ∀ b, b < w.heap.size → ¬ O b → w'.heap[b]? = w.heap[b]?) (hO : ∀ b, b < w.heap.size → O' b → O b)
  (hR : ∀ u row, C u = false → R u = some row → μ' u = μ u ∧ ∃ row', R' u = some row' ∧ row'.sz = row.sz ∧ row'.cs.length = row.cs.length) {u : Nat} {row : Row} (h : LZ w O μ R u row)
  (hu : μ' u = μ u) (hb : ∀ l, μ u = some l → w'.heap[l.b]? = w.heap[l.b]?) : LZ w' O' μ' R' u (row.killP C) := by
 refine ⟨by rw [Row.killP_sz]; exact h.sz, fun x hx => ?_, fun hn => ?_, fun l hl => ?_, fun k hk l hl => by
  rw [hu] at hl
  obtain ⟨e1, arr, fz, e2, e3⟩ := h.ty k hk l hl
  exact ⟨e1, arr, fz, (hb l hl).trans e2, by rw [Row.killP_pr, Row.killP_sz]; exact e3⟩⟩
 ·rw [Row.killP_sz]
  unfold Row.killP at hx
  cases hp : row.pr with
  | true => rw [hp, cond_true] at hx; exact h.el x hx
  | false =>
   rw [hp, cond_false] at hx
   obtain ⟨y, hy, rfl⟩ := List.mem_map.1 hx
   obtain ⟨h1, h2⟩ := h.el y hy
   rw [PV.killP_cells]
   refine ⟨by simpa using h1, fun p hp' => ?_⟩
   obtain ⟨q, hq, rfl⟩ := List.mem_map.1 hp'
   exact PV.killP_one (h2 q hq)
 ·have := h.non (hu ▸ hn)
  have hl := Row.killP_len C row
  rw [this] at hl
  exact List.eq_nil_of_length_eq_zero (by simpa using hl)
 ·rw [hu] at hl
  obtain ⟨arr, ety, fz, h1, h2, h3, h4, h5⟩ := h.lie l hl
  refine ⟨arr, ety, fz, (hb l hl).trans h1, h2, by rw [Row.killP_len, Row.killP_sz]; exact h3, h4, fun i x j p hi hj => ?_⟩
  rw [Row.killP_sz, Row.killP_pr]
  unfold Row.killP at hi
  cases hp : row.pr with
  | true =>
   rw [hp, cond_true] at hi
   obtain ⟨v, hv, hc⟩ := h5 i x j p hi hj
   refine ⟨v, hv, ?_⟩
   rw [hp] at hc
   unfold D6 at hc ⊢
   rw [if_pos rfl] at hc ⊢
   exact hc.frame hw hO
  | false =>
   rw [hp, cond_false] at hi
   rw [List.getElem?_map] at hi
   obtain ⟨y, hy, rfl⟩ := Option.map_eq_some_iff.1 hi
   rw [PV.killP_cells, List.getElem?_map] at hj
   obtain ⟨q, hq, rfl⟩ := Option.map_eq_some_iff.1 hj
   obtain ⟨v, hv, hc⟩ := h5 i y j q hy hq
   refine ⟨v, hv, ?_⟩
   rw [hp] at hc
   unfold D6 at hc ⊢
   rw [if_neg (by simp)] at hc ⊢
   exact hc.killedP C hw hO hR
end
section
variable {w0 w : World} {O : Nat → Prop} {L : MN} {n : Nat} {μ : Mu} {P : Program} {st : St} {a : Act}
theorem nC {C : Nat → Bool} {u : Nat} {R : Rows} {r : Row} (h : I9 C R u = some r) : C u = false ∧ ∃ r', R u = some r' ∧ r = r'.killP C := by
 unfold I9 at h
 cases hu : C u with
 | true => rw [hu] at h; cases h
 | false =>
  rw [hu, cond_false] at h
  obtain ⟨r', hr, rfl⟩ := Option.map_eq_some_iff.1 h
  exact ⟨rfl, r', hr, rfl⟩
theorem rP {C : Nat → Bool} {u : Nat} {R : Rows} {r : Row} (hu : C u = false) (h : R u = some r) : I9 C R u = some (r.killP C) := by
 unfold I9
 rw [hu, cond_false, h]
 rfl
def Lp [BA] (P : Program) (f : FuncId) (Ri : Rows) (ps : List PV) (res : PV) (Ro : Rows) : Prop :=
 ∀ (O : Nat → Prop) (μ : Mu) (w : World) (vs : List Value), Og w O → U9 w O μ Ri → EK w (Av O μ Ri) μ Ri ps vs →
  Calls P f vs.toArray w fun e w' => ∃ v μ', e = .returned v ∧ Fr (OM μ Ri) w w' ∧ U9 w' O μ' Ro ∧
   (∀ t row row', Ri t = some row → Ro t = some row' → μ' t = μ t ∧ row'.sz = row.sz ∧ row'.cs.length = row.cs.length) ∧
   (∀ t row l, Ro t = some row → Ri t = none → μ' t = some l → w.heap.size ≤ l.b ∨ ∃ u r lu, Ri u = some r ∧ Ro u = none ∧ μ u = some lu ∧ lu.b = l.b) ∧ D8 w' (Av O μ' Ro) μ' Ro res v
def gone (Ri Ro : Rows) (t : Nat) : Bool := (Ri t).isSome && !(Ro t).isSome
theorem o5 [BA] {f : FuncId} {Ri Ro : Rows} {ps : List PV} {res : PV} {vs : List Value} (h : BJ w0 O L n μ st a w) (hok : NV st Ri Ro) (hfree : dF Ri ps res Ro)
  (hsat : Lp P f Ri (ps.map (PV.bor Ri st.r)) res Ro) (hv : EK w (Av O μ st.r) μ st.r ps vs) (dst : Option Nat) (hd : ∀ d, dst = some d → d < n) (hT : ∀ t, gone Ri Ro t = true → L.T t = false) {K : Act → World → Prop}
  (hK : ∀ μ' v w', BJ w0 O L n μ' (St.put ⟨iN (gone Ri Ro) st.s, N7 Ro (I9 (gone Ri Ro) st.r)⟩ dst res) (a.put dst v) w' → K (a.put dst v) w') :
  Calls P f vs.toArray w fun e w' => ∃ v, e = .returned v ∧ K (a.put dst v) w' := by
 have hRiR : ∀ b, OM μ Ri b → OM μ st.r b := by
  rintro b ⟨t, row, l, h1, h2, h3⟩
  exact ⟨t, row, l, (hok.sub t row h1).1, h2, h3⟩
 have hO0 : ∀ b, O b → b < w.heap.size := fun b hb => Nat.lt_of_lt_of_le (h.out.lt b hb) h.fr.size
 have hrestlt : ∀ b, rest O μ st.r Ri b → b < w.heap.size := by
  rintro b (h1 | ⟨t, row, l, h1, _, h3, h4⟩)
  ·exact hO0 b h1
  ·rw [← h4]; exact h.block_lt h1 h3
 have main : ∀ (Oc : Nat → Prop), Og w Oc → (∀ b, Oc b → rest O μ st.r Ri b) → (∀ p ∈ ps, p.tk (fun u => (Ri u).isSome) = true ∨ ∀ b, Oc b → O b) →
   (∀ (μ' : Mu) (w' : World) (v : Value), Fr (OM μ Ri) w w' → U9 w' Oc μ' Ro → D8 w' (Av Oc μ' Ro) μ' Ro res v → (∀ b, b < w'.heap.size → ¬ Av Oc μ' Ro b → rest O μ st.r Ri b → False) ∨
    (res.nosl = true ∧ ∀ t row, Ro t = some row → ∀ x ∈ row.cs, x.nosl = true)) →
   Calls P f vs.toArray w fun e w' => ∃ v, e = .returned v ∧ K (a.put dst v) w' := by
  intro Oc hOc hsub hps hav
  have hInR : U9 w Oc μ Ri := by
   refine ⟨fun t row ht => ?_, fun t t' row row' l l' h1 h2 => h.inj t t' row row' l l' (hok.sub t row h1).1 (hok.sub t' row' h2).1, fun t row l h1 h2 => ⟨fun hc => ?_, h.noB (hok.sub t row h1).1 h2⟩⟩
   ·obtain ⟨h1, h2⟩ := hok.sub t row ht
    refine (h.row t row h1).mono (fun u => (Ri u).isSome) (fun _ _ _ => rfl) (fun b _ hb => ?_) (fun u r hu hr => ?_) rfl (fun _ _ => rfl) h2
    ·rcases hb with hb | hb
     ·rcases hsub b hb with h3 | ⟨t', r', l', g1, _, g3, g4⟩
      ·exact .inl h3
      ·exact .inr ⟨t', r', l', g1, g3, g4⟩
     ·exact .inr (hRiR b hb)
    ·obtain ⟨r', hr'⟩ := Option.isSome_iff_exists.1 hu
     have := (hok.sub u r' hr').1
     rw [hr] at this
     cases this
     exact ⟨rfl, r, hr', rfl, Nat.le_refl _⟩
   ·have hst := (hok.sub t row h1).1
    rcases hsub _ hc with h3 | ⟨t', r', l', g1, g2, g3, g4⟩
    ·exact (h.own t row l hst h2).1 h3
    ·have := h.inj t' t r' row l' l g1 hst g3 h2 g4
     rw [this, h1] at g2
     cases g2
  have hargs : EK w (Av Oc μ Ri) μ Ri (ps.map (PV.bor Ri st.r)) vs := by
   refine ⟨by simpa using hv.len, fun j q u hj hu => ?_⟩
   rw [List.getElem?_map] at hj
   obtain ⟨p, hp, rfl⟩ := Option.map_eq_some_iff.1 hj
   have hrel := hv.rel j p u hp hu
   have hO1 : ∀ b, b < w.heap.size → Av Oc μ Ri b → Av O μ st.r b := by
    rintro b _ (hb | hb)
    ·rcases hsub b hb with h3 | ⟨t', r', l', g1, _, g3, g4⟩
     ·exact .inl h3
     ·exact .inr ⟨t', r', l', g1, g3, g4⟩
    ·exact .inr (hRiR b hb)
   rcases hps p (List.mem_of_getElem? hp) with hfr | hfr
   ·have h1 : D8 w (Av Oc μ Ri) μ Ri p u := hrel.mono (fun t => (Ri t).isSome) (fun _ _ _ => rfl) hO1 (fun t r ht hr => by
     obtain ⟨r', hr'⟩ := Option.isSome_iff_exists.1 ht
     have := (hok.sub t r' hr').1
     rw [hr] at this
     cases this
     exact ⟨rfl, r, hr', rfl, Nat.le_refl _⟩) hfr
    refine D8.map (fs := bs Ri st.r) (fp := bp Ri st.r) (fun _ _ _ => rfl) (fun _ _ h => h) (j4 _ _) (j5 _ _) (fun t lo m v hv => ?_) (fun t i o v hv => ?_) h1
    ·unfold bs
     cases hv with
     | base _ _ h => cases h
     | slr _ _ _ c row l hr hm hn hc hroom => simp only [hr]; exact .slr t lo m c row l hr hm hn hc hroom
     | slr0 _ _ row A hr hn => simp only [hr]; exact .slr0 t lo row A hr hn
    ·unfold bp
     cases hv with
     | base _ _ h => cases h
     | ptr _ _ _ row l hr hm hi ho => simp only [hr]; exact .ptr t i o row l hr hm hi ho
   ·refine D8.map (fs := bs Ri st.r) (fp := bp Ri st.r) (fun _ _ _ => rfl) hO1 (j4 _ _) (j5 _ _) (fun t lo m v hv => ?_) (fun t i o v hv => ?_) hrel
    ·unfold bs
     cases hRi : Ri t with
     | some r =>
      simp only
      have hst := (hok.sub t r hRi).1
      cases hv with
      | base _ _ h => cases h
      | slr _ _ _ c row l hr hm hn hc hroom => rw [hst] at hr; cases hr; exact .slr t lo m c r l hRi hm hn hc hroom
      | slr0 _ _ row A hr hn => rw [hst] at hr; cases hr; exact .slr0 t lo r A hRi hn
     | none =>
      simp only
      have hany : v.oneCell' = true := hv.oneCell rfl
      cases hr : st.r t with
      | none => exact .base _ _ (.any v hany)
      | some row =>
       simp only
       cases hpr : row.pr with
       | false => exact .base _ _ (.any v hany)
       | true =>
        refine .base _ _ (YA h.rows hr hpr hv (fun b hb => hO1 b ?_ hb) fun l hl hb => ?_)
        ·rcases hb with hb | ⟨t', r', l', g1, g2, g3⟩
         ·exact hOc.lt b hb
         ·rw [← g3]; exact h.block_lt (hok.sub t' r' g1).1 g2
        ·rcases hb with hb | ⟨t', r', l', g1, g2, g3⟩
         ·exact (h.own t row l hr hl).1 (hfr _ hb)
         ·have := h.inj t' t r' row l' l (hok.sub t' r' g1).1 hr g2 hl g3
          rw [this, hRi] at g1
          cases g1
    ·unfold bp
     cases hRi : Ri t with
     | some r =>
      simp only
      have hst := (hok.sub t r hRi).1
      cases hv with
      | base _ _ h => cases h
      | ptr _ _ _ row l hr hm hi ho => rw [hst] at hr; cases hr; exact .ptr t i o r l hRi hm hi ho
     | none =>
      simp only
      have hany : v.oneCell' = true := hv.oneCell rfl
      cases hr : st.r t with
      | none => exact .base _ _ (.any v hany)
      | some row =>
       simp only
       cases hx : row.cs[i]? with
       | none => exact .base _ _ (.any v hany)
       | some x =>
        simp only
        cases hfo : (x.cells.all PV.free && Nat.blt o x.cells.length) with
        | false => exact .base _ _ (.any v hany)
        | true =>
         rw [Bool.and_eq_true] at hfo
         refine .base _ _ (oU h.rows hr hx hfo.1 hfo.2 hv (fun b hb => hO1 b ?_ hb) fun l hl hb => ?_)
         ·rcases hb with hb | ⟨t', r', l', g1, g2, g3⟩
          ·exact hOc.lt b hb
          ·rw [← g3]; exact h.block_lt (hok.sub t' r' g1).1 g2
         ·rcases hb with hb | ⟨t', r', l', g1, g2, g3⟩
          ·exact (h.own t row l hr hl).1 (hfr _ hb)
          ·have := h.inj t' t r' row l' l (hok.sub t' r' g1).1 hr g2 hl g3
           rw [this, hRi] at g1
           cases g1
  refine (hsat Oc μ w vs hOc hInR hargs).mono ?_
  rintro e w' ⟨v, μ', rfl, hfr, hro, hkeep, hnew, hres⟩
  refine ⟨v, rfl, hK (fun t => match Ro t with | some _ => μ' t | none => μ t) v w' ?_⟩
  have hm1 : ∀ t r, Ro t = some r → (fun t => match Ro t with | some _ => μ' t | none => μ t) t = μ' t := fun t r hr => by simp only [hr]
  have hm2 : ∀ t, Ro t = none → (fun t => match Ro t with | some _ => μ' t | none => μ t) t = μ t := fun t hr => by simp only [hr]
  generalize hμ : (fun t => match Ro t with | some _ => μ' t | none => μ t) = ν at hm1 hm2
  have hg1 : ∀ t r, Ro t = some r → N7 Ro (I9 (gone Ri Ro) st.r) t = some r := fun t r hr => by simp [N7, hr]
  have hg2 : ∀ t, Ro t = none → N7 Ro (I9 (gone Ri Ro) st.r) t = I9 (gone Ri Ro) st.r t := fun t hr => by simp [N7, hr]
  have hold : ∀ t r, Ro t = none → I9 (gone Ri Ro) st.r t = some r → Ri t = none ∧ ∃ r', st.r t = some r' ∧ r = r'.killP (gone Ri Ro) := by
   intro t r ht hr
   obtain ⟨hc, r', hr', e⟩ := nC hr
   refine ⟨?_, r', hr', e⟩
   cases hri : Ri t with
   | none => rfl
   | some x => simp [gone, hri, ht] at hc
  have hblk : ∀ t r' l, Ro t = some r' → μ' t = some l → w.heap.size ≤ l.b ∨ ∃ u r lu, st.r u = some r ∧ μ u = some lu ∧ lu.b = l.b ∧ Ri u = some r ∧ (u = t ∨ Ro u = none) := by
   intro t r' l hr hl
   cases hri : Ri t with
   | none =>
    rcases hnew t r' l hr hri hl with h1 | ⟨u, r, lu, h1, h2, h3, h4⟩
    ·exact .inl h1
    ·exact .inr ⟨u, r, lu, (hok.sub u r h1).1, h3, h4, h1, .inr h2⟩
   | some r'' =>
    obtain ⟨e1, _, _⟩ := hkeep t r'' r' hri hr
    exact .inr ⟨t, r'', l, (hok.sub t r'' hri).1, by rw [← e1]; exact hl, rfl, hri, .inl rfl⟩
  have hOut : ∀ b, b < w.heap.size → Av O ν (N7 Ro (I9 (gone Ri Ro) st.r)) b → Av O μ st.r b := by
   rintro b hb (h1 | ⟨t, r, l, h1, h2, h3⟩)
   ·exact .inl h1
   ·cases hr : Ro t with
    | none =>
     rw [hg2 t hr] at h1
     rw [hm2 t hr] at h2
     obtain ⟨_, r', hr', _⟩ := hold t r hr h1
     exact .inr ⟨t, r', l, hr', h2, h3⟩
    | some r' =>
     rw [hm1 t r' hr] at h2
     rcases hblk t r' l hr h2 with h4 | ⟨u, r2, lu, g1, g2, g3, _⟩
     ·omega
     ·exact .inr ⟨u, r2, lu, g1, g2, g3.trans h3⟩
  have hw : ∀ b, b < w.heap.size → ¬ Av O μ st.r b → w'.heap[b]? = w.heap[b]? := fun b hb hn => hfr.block b hb fun hc => hn (.inr (hRiR b hc))
  have henv : ∀ t r, gone Ri Ro t = false → st.r t = some r → ν t = μ t ∧ ∃ r', N7 Ro (I9 (gone Ri Ro) st.r) t = some r' ∧ r'.sz = r.sz ∧ r'.cs.length = r.cs.length := by
   intro t r hg hr
   cases hro' : Ro t with
   | none => exact ⟨hm2 t hro', r.killP _, by rw [hg2 t hro']; exact rP hg hr, Row.killP_sz _ _, Row.killP_len _ _⟩
   | some r' =>
    cases hri : Ri t with
    | none => have := hok.fresh t r' hro' hri; rw [hr] at this; cases this
    | some r'' =>
     obtain ⟨e1, e3, e4⟩ := hkeep t r'' r' hri hro'
     have := (hok.sub t r'' hri).1
     rw [hr] at this
     cases this
     exact ⟨by rw [hm1 t r' hro', e1], r', hg1 t r' hro', e3, e4⟩
  have hRoAv : ∀ b, b < w'.heap.size → Av O ν (N7 Ro (I9 (gone Ri Ro) st.r)) b → Av Oc μ' Ro b ∨ rest O μ st.r Ri b := by
   rintro b hb (h1 | ⟨t, r, l, h1, h2, h3⟩)
   ·exact .inr (.inl h1)
   ·cases hr : Ro t with
    | none =>
     rw [hg2 t hr] at h1
     rw [hm2 t hr] at h2
     obtain ⟨hri, r', hr', _⟩ := hold t r hr h1
     exact .inr (.inr ⟨t, r', l, hr', hri, h2, h3⟩)
    | some r' =>
     rw [hm1 t r' hr] at h2
     exact .inl (.inr ⟨t, r', l, hr, h2, h3⟩)
  have hback : ∀ {p : PV} {v : Value}, D8 w' (Av Oc μ' Ro) μ' Ro p v → ((∀ b, b < w'.heap.size → ¬ Av Oc μ' Ro b → rest O μ st.r Ri b → False) ∨ p.nosl = true) → D8 w' (Av O ν (N7 Ro (I9 (gone Ri Ro) st.r))) ν (N7 Ro (I9 (gone Ri Ro) st.r)) p v := by
   intro p v hrel hc
   have env2 : ∀ t r, true = true → Ro t = some r → ν t = μ' t ∧ ∃ r', N7 Ro (I9 (gone Ri Ro) st.r) t = some r' ∧ r'.sz = r.sz ∧ r.cs.length ≤ r'.cs.length := fun t r _ hr => ⟨hm1 t r hr, r, hg1 t r hr, rfl, Nat.le_refl _⟩
   rcases hc with hc | hc
   ·refine hrel.mono (fun _ => true) (fun _ _ _ => rfl) (fun b hb hav' => ?_) env2 (PV.tk_true _)
    rcases hRoAv b hb hav' with h1 | h1
    ·exact h1
    ·rcases Classical.em (Av Oc μ' Ro b) with h2 | h2
     ·exact h2
     ·exact (hc b hb h2 h1).elim
   ·exact ((hrel.mono (fun _ => true) (fun _ _ _ => rfl) (fun _ _ h => h) env2 (PV.tk_true _)).nosl hc)
  have hcase := hav μ' w' v hfr hro hres
  have hst : BJ w0 O L n ν ⟨iN (gone Ri Ro) st.s, N7 Ro (I9 (gone Ri Ro) st.r)⟩ a w' := by
   refine ⟨h.dfr, h.size, h.fr.trans hfr (fun x hx hc => ?_), h.out, fun k q hk => ?_, fun t r hr => ?_, ?_, ?_, fun t hTt => ?_⟩
   ·obtain ⟨t, r, l, h1, h2, h3⟩ := hRiR x hc
    rcases (h.own t r l h1 h2).2 with h4 | h4
    ·omega
    ·rw [← h3]; exact h4
   ·obtain ⟨q', hq', rfl⟩ := Option.map_eq_some_iff.1 hk
    obtain ⟨u, hu, hrel⟩ := h.slot k q' hq'
    exact ⟨u, hu, hrel.killedP _ hw hOut henv⟩
   ·cases hro' : Ro t with
    | none =>
     have hr1 : I9 (gone Ri Ro) st.r t = some r := by rw [← hg2 t hro']; exact hr
     obtain ⟨hri, r', hr', rfl⟩ := hold t r hro' hr1
     refine (h.row t r' hr').killedP _ hw hOut henv (hm2 t hro') (fun l hl => hfr.block _ (h.block_lt hr' hl) ?_)
     rintro ⟨t', r2, l', g1, g2, g3⟩
     have := h.inj t' t r2 r' l' l (hok.sub t' r2 g1).1 hr' g2 hl g3
     rw [this, hri] at g1
     cases g1
    | some r' =>
     have : r' = r := by
      have h1 := hg1 t r' hro'
      have hr2 : N7 Ro (I9 (gone Ri Ro) st.r) t = some r := hr
      rw [h1] at hr2
      exact Option.some.inj hr2
     subst this
     have hrr := hro.row t r' hro'
     refine ⟨hrr.sz, hrr.el, fun hn => hrr.non (by rw [hm1 t r' hro'] at hn; exact hn), fun l hl => ?_, fun k hk l hl => hrr.ty k hk l (by rw [hm1 t r' hro'] at hl; exact hl)⟩
     rw [hm1 t r' hro'] at hl
     obtain ⟨arr, ety, fz, g1, g2, g3, g4, g5⟩ := hrr.lie l hl
     refine ⟨arr, ety, fz, g1, g2, g3, g4, fun i x j p hi hj => ?_⟩
     obtain ⟨u, hu, hc⟩ := g5 i x j p hi hj
     refine ⟨u, hu, ?_⟩
     have hcond : (∀ b, b < w'.heap.size → ¬ Av Oc μ' Ro b → rest O μ st.r Ri b → False) ∨ p.nosl = true := hcase.imp id fun hc => PV.nosl_cells (hc.2 t r' hro' x (List.mem_of_getElem? hi)) p (List.mem_of_getElem? hj)
     unfold D6 at hc ⊢
     split
     ·rename_i hpr
      rw [if_pos hpr] at hc
      rcases hcond with h1 | h1
      ·refine hc.frame (fun _ _ _ => rfl) (fun b hb hav' => ?_)
       rcases hRoAv b hb hav' with h2 | h2
       ·exact h2
       ·rcases Classical.em (Av Oc μ' Ro b) with h3 | h3
        ·exact h3
        ·exact (h1 b hb h3 h2).elim
      ·exact hc.nosl h1
     ·rename_i hpr
      rw [if_neg hpr] at hc
      exact hback hc hcond
   ·intro t t' r r' l l' h1 h2 h3 h4 h5
    have key : ∀ t r l, N7 Ro (I9 (gone Ri Ro) st.r) t = some r → ν t = some l → (∃ r', Ro t = none ∧ Ri t = none ∧ st.r t = some r' ∧ μ t = some l) ∨ (∃ r', Ro t = some r' ∧ μ' t = some l) := by
     intro t r l h1 h2
     cases hr : Ro t with
     | none =>
      rw [hg2 t hr] at h1
      obtain ⟨hri, r', hr', _⟩ := hold t r hr h1
      exact .inl ⟨r', rfl, hri, hr', by rw [← hm2 t hr]; exact h2⟩
     | some r' =>
      rw [hm1 t r' hr] at h2
      exact .inr ⟨r', rfl, h2⟩
    have cross : ∀ t t' r r' l l', Ri t = none → st.r t = some r → μ t = some l → Ro t = none → Ro t' = some r' → μ' t' = some l' → l.b = l'.b → False := by
     intro t t' r r' l l' e1 e2 e3 e4 e5 e6 e7
     rcases hblk t' r' l' e5 e6 with f | ⟨u, r2, lu, g1, g2, g3, g4, g5⟩
     ·have := h.block_lt e2 e3; omega
     ·have := h.inj t u r r2 l lu e2 g1 e3 g2 (e7.trans g3.symm)
      rw [← this, e1] at g4
      cases g4
    rcases key t r l h1 h3 with ⟨s, e1, e2, e3, e4⟩ | ⟨s, e1, e2⟩
    ·rcases key t' r' l' h2 h4 with ⟨s', f1, f2, f3, f4⟩ | ⟨s', f1, f2⟩
     ·exact h.inj t t' s s' l l' e3 f3 e4 f4 h5
     ·exact (cross t t' s s' l l' e2 e3 e4 e1 f1 f2 h5).elim
    ·rcases key t' r' l' h2 h4 with ⟨s', f1, f2, f3, f4⟩ | ⟨s', f1, f2⟩
     ·exact (cross t' t s' s l' l f2 f3 f4 f1 e1 e2 h5.symm).elim
     ·exact hro.inj t t' s s' l l' e1 f1 e2 f2 h5
   ·intro t r l h1 h2
    cases hr : Ro t with
    | none =>
     have hr1 : N7 Ro (I9 (gone Ri Ro) st.r) t = some r := h1
     rw [hg2 t hr] at hr1
     obtain ⟨_, r', hr', _⟩ := hold t r hr hr1
     exact h.own t r' l hr' (by rw [← hm2 t hr]; exact h2)
    | some r' =>
     rw [hm1 t r' hr] at h2
     have h5 := h.fr.size
     rcases hblk t r' l hr h2 with f | ⟨u, r2, lu, g1, g2, g3, _⟩
     ·exact ⟨fun hc => by have := h.out.lt _ hc; omega, .inl (by omega)⟩
     ·rw [← g3]; exact h.own u r2 lu g1 g2
   ·obtain ⟨g1, r, g2⟩ := h.keep t hTt
    have hng : gone Ri Ro t = false := by
     cases hg : gone Ri Ro t with
     | false => rfl
     | true => rw [hT t hg] at hTt; cases hTt
    obtain ⟨e1, r', e2, _⟩ := henv t r hng g2
    exact ⟨e1.trans g1, r', e2⟩
  have hr2 := hback hres (hcase.imp id fun hc => hc.1)
  exact hst.put dst hd hr2
 rcases hfree with hfree | hfree
 ·refine main (rest O μ st.r Ri) ⟨hrestlt, h.og.ok⟩ (fun _ h => h) (fun p hp => .inl (hfree p hp)) (fun μ' w' v _ _ _ => .inl fun b _ h1 h2 => h1 (.inl h2))
 ·exact main O h.og (fun b hb => .inl hb) (fun p hp => .inr fun b hb => hb) (fun μ' w' v _ _ _ => .inr hfree)
end
theorem PV.tks_of [BA] {f : Nat → Bool} : ∀ {l : List PV}, (∀ p ∈ l, p.tk f = true) → PV.tks f l = true
 | [], _ => rfl
 | p :: r, h => by rw [PV.tks, h p (by simp), PV.tks_of fun q hq => h q (by simp [hq])]; rfl
theorem DZ.tk [BA] {w : World} {O : Nat → Prop} {p : PV} {v : Value} (h : DZ w O p v) (f : Nat → Bool) : p.tk f = true := by
 have key : ∀ {cs : List PV} {vs : List Value}, vs.length = cs.length → (∀ (j : Nat) (p : PV) (v : Value), cs[j]? = some p → vs[j]? = some v → p.tk f = true) → PV.tks f cs = true := by
  intro cs vs hl h
  refine PV.tks_of fun p hp => ?_
  obtain ⟨j, hj⟩ := List.getElem?_of_mem hp
  have hlt := (List.getElem?_eq_some_iff.1 hj).1
  exact h j p (vs[j]'(by omega)) hj (List.getElem?_eq_getElem (by omega))
 induction h with
 | clo g caps vs hl h ih => simp only [PV.tk]; exact key hl ih
 | agg cs vs hl hs h ih => simp only [PV.tk]; exact key hl ih
 | tup cs vs hl h ih => simp only [PV.tk]; exact key hl ih
 | _ => rfl
theorem D8.tk [BA] {w : World} {O : Nat → Prop} {μ : Mu} {R : Rows} {p : PV} {v : Value} (h : D8 w O μ R p v) : p.tk (fun t => (R t).isSome) = true := by
 have key : ∀ {cs : List PV} {vs : List Value}, vs.length = cs.length → (∀ (j : Nat) (p : PV) (v : Value), cs[j]? = some p → vs[j]? = some v → p.tk (fun t => (R t).isSome) = true) → PV.tks (fun t => (R t).isSome) cs = true := by
  intro cs vs hl h
  refine PV.tks_of fun p hp => ?_
  obtain ⟨j, hj⟩ := List.getElem?_of_mem hp
  have hlt := (List.getElem?_eq_some_iff.1 hj).1
  exact h j p (vs[j]'(by omega)) hj (List.getElem?_eq_getElem (by omega))
 induction h with
 | base p v h => exact h.tk _
 | slr t lo n c row l hr hm hn hc hroom => simp [PV.tk, hr]
 | slr0 t lo row A hr hn => simp [PV.tk, hr]
 | ptr t i off row l hr hm hi ho => simp [PV.tk, hr]
 | clo g caps vs hl h ih => simp only [PV.tk]; exact key hl ih
 | agg cs vs hl hs h ih => simp only [PV.tk]; exact key hl ih
 | tup cs vs hl h ih => simp only [PV.tk]; exact key hl ih
theorem PV.map_congr {f : Nat → Bool} {fs fp gs gp : Nat → Nat → Nat → PV} (hs : ∀ t lo n, f t = true → fs t lo n = gs t lo n) (hp : ∀ t i o, f t = true → fp t i o = gp t i o) : ∀ p : PV, p.tk f = true → p.map fs fp = p.map gs gp := by
 intro p
 refine PV.rec (motive_1 := fun p => p.tk f = true → p.map fs fp = p.map gs gp) (motive_2 := fun l => PV.tks f l = true → PV.maps fs fp l = PV.maps gs gp l) ?_ ?_ ?_ ?_ ?_ ?_ ?_ ?_ ?_ ?_ ?_ ?_ ?_ ?_ ?_ ?_ ?_ ?_ ?_ ?_ p <;> intros <;> simp_all [PV.tk, PV.tks, PV.map, PV.maps]
def Ec (t : Nat) (row : Row) : Nat → Nat → Nat → PV := fun u lo n => bif Nat.beq u t then .sl row.sz ((row.cs.drop lo).take n) else .slr u lo n
def PV.frz (t : Nat) (row : Row) (p : PV) : PV := p.map (Ec t row) (zV t)
def Row.frz (t : Nat) (r : Row) (row : Row) : Row := bif r.pr then r else ⟨r.sz, r.pr, r.cs.map (PV.frz t row)⟩
def Cm (t : Nat) (row : Row) (s : EY) : EY := fun k => (s k).map (PV.frz t row)
def WJ (t : Nat) (row : Row) (r : Rows) : Rows := fun u => bif Nat.beq u t then none else (r u).map (fun r => r.frz t row)
theorem iV (t : Nat) (row : Row) (u lo n : Nat) : (Ec t row u lo n).one = true := by unfold Ec; cases Nat.beq u t <;> rfl
theorem PV.frz_one [BA] {t : Nat} {row : Row} {p : PV} (h : p.one = true) : (p.frz t row).one = true := PV.map_one (iV t row) (V8 t) p h
theorem PV.frz_cells [BA] (t : Nat) (row : Row) (p : PV) : (p.frz t row).cells = p.cells.map (PV.frz t row) := PV.map_cells (iV t row) (V8 t) p
theorem Row.frz_sz (t : Nat) (r row : Row) : (r.frz t row).sz = r.sz := by unfold Row.frz; cases r.pr <;> rfl
theorem Row.frz_pr (t : Nat) (r row : Row) : (r.frz t row).pr = r.pr := by unfold Row.frz; cases h : r.pr <;> simp [h]
theorem Row.frz_len (t : Nat) (r row : Row) : (r.frz t row).cs.length = r.cs.length := by unfold Row.frz; cases r.pr <;> simp
theorem SI [BA] {t u : Nat} {row : Row} {R : Rows} {r : Row} (h : WJ t row R u = some r) : u ≠ t ∧ ∃ r', R u = some r' ∧ r = r'.frz t row := by
 unfold WJ at h
 by_cases hu : u = t
 ·rw [hu, FM] at h; cases h
 ·rw [E8 hu, cond_false] at h
  obtain ⟨r', hr, rfl⟩ := Option.map_eq_some_iff.1 h
  exact ⟨hu, r', hr, rfl⟩
theorem qU [BA] {t u : Nat} {row : Row} {R : Rows} {r : Row} (hu : u ≠ t) (h : R u = some r) : WJ t row R u = some (r.frz t row) := by
 unfold WJ
 rw [E8 hu, cond_false, h]
 rfl
theorem BJ.freeze [BA] {w0 w : World} {O : Nat → Prop} {L : MN} {n : Nat} {μ : Mu} {st : St} {a : Act} (h : BJ w0 O L n μ st a w) (t : Nat) (row : Row) (ht : st.r t = some row) (hpr : row.pr = true) (hT : L.T t = false) : BJ w0 O L n μ ⟨Cm t row st.s, WJ t row st.r⟩ a w := by
 have hO : ∀ b, Av O μ (WJ t row st.r) b → Av O μ st.r b := by
  rintro b (h1 | ⟨u, r, l, h1, h2, h3⟩)
  ·exact .inl h1
  ·obtain ⟨hu, r', hr, rfl⟩ := SI h1
   exact .inr ⟨u, r', l, hr, h2, h3⟩
 have hown : ∀ l, μ t = some l → ¬ Av O μ (WJ t row st.r) l.b := by
  rintro l hl (h1 | ⟨u, r, l', h1, h2, h3⟩)
  ·exact (h.own t row l ht hl).1 h1
  ·obtain ⟨hu, r', hr, rfl⟩ := SI h1
   exact hu (h.inj u t r' row l' l hr ht h2 hl h3)
 have hR : ∀ u r, u ≠ t → st.r u = some r → ∃ r', WJ t row st.r u = some r' ∧ r'.sz = r.sz ∧ r'.cs.length = r.cs.length :=
  fun u r hu hr => ⟨_, qU hu hr, Row.frz_sz _ _ _, Row.frz_len _ _ _⟩
 have key : ∀ {p : PV} {v : Value}, D8 w (Av O μ st.r) μ st.r p v → D8 w (Av O μ (WJ t row st.r)) μ (WJ t row st.r) (p.frz t row) v := by
  intro p v hp
  refine D8.map (fs := Ec t row) (fp := zV t) (fun _ _ _ => rfl) (fun b _ hb => hO b hb) (iV t row) (V8 t) (fun u lo m v hv => ?_) (fun u i o v hv => ?_) hp
  ·unfold Ec
   by_cases hu : u = t
   ·subst hu
    rw [FM]
    exact .base _ _ (YA h.rows ht hpr hv hO hown)
   ·rw [E8 hu]
    cases hv with
    | base _ _ h => cases h
    | slr _ _ _ c r l hr hm hn hc hroom =>
     obtain ⟨r', h2, h3, h4⟩ := hR u r hu hr
     rw [← h3]
     exact .slr u lo m c r' l h2 hm (by omega) hc (by rw [h3]; exact hroom)
    | slr0 _ _ r A hr hn =>
     obtain ⟨r', h2, h3, h4⟩ := hR u r hu hr
     exact .slr0 u lo r' A h2 (by omega)
  ·unfold zV
   by_cases hu : u = t
   ·rw [hu, FM]
    exact .base _ _ (.any v (hv.oneCell rfl))
   ·rw [E8 hu]
    cases hv with
    | base _ _ h => cases h
    | ptr _ _ _ r l hr hm hi ho =>
     obtain ⟨r', h2, h3, h4⟩ := hR u r hu hr
     rw [← h3]
     exact .ptr u i o r' l h2 hm (by omega) (by omega)
 refine ⟨h.dfr, h.size, h.fr, h.out, fun k p hk => ?_, fun u r hr => ?_, ?_, ?_, fun u hu => ?_⟩
 ·obtain ⟨q, hq, rfl⟩ := Option.map_eq_some_iff.1 hk
  obtain ⟨v, hv, hrel⟩ := h.slot k q hq
  exact ⟨v, hv, key hrel⟩
 ·obtain ⟨hu, r', hr', rfl⟩ := SI hr
  have hrr := h.row u r' hr'
  refine ⟨by rw [Row.frz_sz]; exact hrr.sz, fun x hx => ?_, fun hn => ?_, fun l hl => ?_, fun k hk l hl => by
   obtain ⟨e1, arr, fz, e2, e3⟩ := hrr.ty k hk l hl
   exact ⟨e1, arr, fz, e2, by rw [Row.frz_pr, Row.frz_sz]; exact e3⟩⟩
  ·rw [Row.frz_sz]
   unfold Row.frz at hx
   cases hp : r'.pr with
   | true => rw [hp, cond_true] at hx; exact hrr.el x hx
   | false =>
    rw [hp, cond_false] at hx
    obtain ⟨y, hy, rfl⟩ := List.mem_map.1 hx
    obtain ⟨h1, h2⟩ := hrr.el y hy
    rw [PV.frz_cells]
    refine ⟨by simpa using h1, fun p hp' => ?_⟩
    obtain ⟨q, hq, rfl⟩ := List.mem_map.1 hp'
    exact PV.frz_one (h2 q hq)
  ·have := hrr.non hn
   have hl := Row.frz_len t r' row
   rw [this] at hl
   exact List.eq_nil_of_length_eq_zero (by simpa using hl)
  ·obtain ⟨arr, ety, fz, h1, h2, h3, h4, h5⟩ := hrr.lie l hl
   refine ⟨arr, ety, fz, h1, h2, by rw [Row.frz_len, Row.frz_sz]; exact h3, h4, fun i x j p hi hj => ?_⟩
   rw [Row.frz_sz, Row.frz_pr]
   unfold Row.frz at hi
   cases hp : r'.pr with
   | true =>
    rw [hp, cond_true] at hi
    obtain ⟨v, hv, hc⟩ := h5 i x j p hi hj
    refine ⟨v, hv, ?_⟩
    rw [hp] at hc
    unfold D6 at hc ⊢
    rw [if_pos rfl] at hc ⊢
    exact hc.frame (fun _ _ _ => rfl) (fun b _ hb => hO b hb)
   | false =>
    rw [hp, cond_false] at hi
    rw [List.getElem?_map] at hi
    obtain ⟨y, hy, rfl⟩ := Option.map_eq_some_iff.1 hi
    rw [PV.frz_cells, List.getElem?_map] at hj
    obtain ⟨q, hq, rfl⟩ := Option.map_eq_some_iff.1 hj
    obtain ⟨v, hv, hc⟩ := h5 i y j q hy hq
    refine ⟨v, hv, ?_⟩
    rw [hp] at hc
    unfold D6 at hc ⊢
    rw [if_neg (by simp)] at hc ⊢
    exact key hc
 ·intro u u' r r' l l' h1 h2 h3 h4 h5
  obtain ⟨_, s, hs, _⟩ := SI h1
  obtain ⟨_, s', hs', _⟩ := SI h2
  exact h.inj u u' s s' l l' hs hs' h3 h4 h5
 ·intro u r l h1 h2
  obtain ⟨_, s, hs, _⟩ := SI h1
  exact h.own u s l hs h2
 ·obtain ⟨h1, r, h2⟩ := h.keep u hu
  have hne : u ≠ t := fun e => by rw [e, hT] at hu; cases hu
  exact ⟨h1, _, qU hne h2⟩
theorem PV.map_self : ∀ p : PV, p.map (fun t lo n => .slr t lo n) (fun t i o => .ptr t i o) = p := by
 intro p
 refine PV.rec (motive_1 := fun p => p.map (fun t lo n => .slr t lo n) (fun t i o => .ptr t i o) = p) (motive_2 := fun l => PV.maps (fun t lo n => .slr t lo n) (fun t i o => .ptr t i o) l = l) ?_ ?_ ?_ ?_ ?_ ?_ ?_ ?_ ?_ ?_ ?_ ?_ ?_ ?_ ?_ ?_ ?_ ?_ ?_ ?_ p <;> intros <;> simp_all [PV.map, PV.maps]
theorem PV.frz_self [BA] {R : Rows} {t : Nat} {row : Row} {p : PV} (h : p.tk (fun u => (R u).isSome) = true) (ht : R t = none) : p.frz t row = p := by
 have e := PV.map_congr (f := fun u => (R u).isSome) (fs := Ec t row) (fp := zV t) (gs := fun t lo n => .slr t lo n) (gp := fun t i o => .ptr t i o)
  (fun u lo n hu => by
   have : u ≠ t := fun e => by subst e; simp [ht] at hu
   unfold Ec; rw [E8 this]; rfl)
  (fun u i o hu => by
   have : u ≠ t := fun e => by subst e; simp [ht] at hu
   unfold zV; rw [E8 this]; rfl) p h
 exact e.trans (PV.map_self p)
theorem PV.tk_of_cells [BA] {f : Nat → Bool} {x : PV} (h : ∀ p ∈ x.cells, p.tk f = true) : x.tk f = true := by
 cases x with
 | agg cs => simp only [PV.tk]; exact PV.tks_of h
 | _ => exact h _ (by simp [PV.cells])
section
variable {w0 w : World} {O : Nat → Prop} {L : MN} {n : Nat} {μ : Mu} {P : Program} {st : St} {a : Act}
theorem Row.frz_self [BA] (h : BJ w0 O L n μ st a w) {t u : Nat} {row r : Row} (ht : st.r t = none) (hu : st.r u = some r) : r.frz t row = r := by
 unfold Row.frz
 cases hp : r.pr with
 | true => rfl
 | false =>
  rw [cond_false]
  have k := h.row u r hu
  have e : r.cs.map (PV.frz t row) = r.cs := by
   cases hm : μ u with
   | none => rw [k.non hm]; rfl
   | some l =>
    obtain ⟨arr, ety, fz, h1, h2, h3, h4, h5⟩ := k.lie l hm
    refine (List.map_congr_left fun x hx => ?_).trans (List.map_id _)
    obtain ⟨i, hi⟩ := List.getElem?_of_mem hx
    refine PV.frz_self (R := st.r) (PV.tk_of_cells fun p hp2 => ?_) ht
    obtain ⟨j, hj⟩ := List.getElem?_of_mem hp2
    obtain ⟨v, hv, hc⟩ := h5 i x j p hi hj
    unfold D6 at hc
    rw [hp, if_neg (by simp)] at hc
    exact hc.tk
  rw [e, ← hp]
theorem sZ [BA] {o : Oper} {sz : Nat} {xs : List DD} (hc : SN P o = some (.bsl sz xs)) (hd : ∀ d, o.dst = some d → d < n) (h : BJ w0 O L n μ st a w) {ps : List PV} (hp : evs st.s xs = some ps)
  (hel : ∀ p ∈ ps, p.cells.length = sz ∧ (∀ q ∈ p.cells, q.one = true) ∧ p.free = true) (hz : Nat.ble 1 sz = true) (t : Nat) (ht : st.r t = none) (hty : IP t = none) :
  ∃ a' w', Done P o a w a' w' ∧ ∃ μ', BJ w0 O L n μ' (St.put ⟨st.s, upd st.r t (some ⟨sz, true, []⟩)⟩ o.dst (.sl sz ps)) a' w' := by
 obtain ⟨a', w', hd', μ', h1⟩ := lM hc hd h hp hel t ht hty
 have hT : L.T t = false := by
  cases hT : L.T t with
  | false => rfl
  | true =>
   obtain ⟨_, row, hr⟩ := h.keep t hT
   rw [ht] at hr; cases hr
 have hr1 : (St.put ⟨st.s, upd st.r t (some ⟨sz, true, ps⟩)⟩ o.dst (.slr t 0 ps.length)).r = upd st.r t (some ⟨sz, true, ps⟩) := St.put_r _ _ _
 have h2 := h1.freeze t ⟨sz, true, ps⟩ (by rw [hr1, upd_same]) rfl hT
 have h3 := h2.empty t (by simp only; unfold WJ; rw [FM]; rfl) sz (Nat.le_of_ble_eq_true hz) true
 refine ⟨a', w', hd', upd μ' t none, ?_⟩
 have eR : upd (WJ t ⟨sz, true, ps⟩ (upd st.r t (some ⟨sz, true, ps⟩))) t (some ⟨sz, true, []⟩) = upd st.r t (some ⟨sz, true, []⟩) := by
  funext u
  by_cases hu : u = t
  ·subst hu; rw [upd_same, upd_same]
  ·rw [upd_ne _ _ hu, upd_ne _ _ hu]
   unfold WJ
   rw [E8 hu, cond_false, upd_ne _ _ hu]
   cases hr : st.r u with
   | none => rfl
   | some r => rw [Option.map_some, Row.frz_self h ht hr]
 have eS0 : ∀ k, (st.s k).map (PV.frz t ⟨sz, true, ps⟩) = st.s k := by
  intro k
  cases hk : st.s k with
  | none => rfl
  | some p =>
   obtain ⟨v, hv, hrel⟩ := h.slot k p hk
   rw [Option.map_some, PV.frz_self (R := st.r) hrel.tk ht]
 have eV : PV.frz t ⟨sz, true, ps⟩ (.slr t 0 ps.length) = .sl sz ps := by
  unfold PV.frz
  simp only [PV.map, Ec, FM, cond_true, List.drop_zero, List.take_length]
 have e : (⟨Cm t ⟨sz, true, ps⟩ (St.put ⟨st.s, upd st.r t (some ⟨sz, true, ps⟩)⟩ o.dst (.slr t 0 ps.length)).s, upd (WJ t ⟨sz, true, ps⟩ (St.put ⟨st.s, upd st.r t (some ⟨sz, true, ps⟩)⟩ o.dst (.slr t 0 ps.length)).r) t (some ⟨sz, true, []⟩)⟩ : St)
   = St.put ⟨st.s, upd st.r t (some ⟨sz, true, []⟩)⟩ o.dst (.sl sz ps) := by
  rw [hr1, eR]
  cases hdst : o.dst with
  | none =>
   simp only [St.put]
   congr 1
   funext k
   exact eS0 k
  | some d =>
   simp only [St.put]
   congr 1
   funext k
   unfold Cm
   by_cases hk : k = d
   ·subst hk; rw [upd_same, upd_same, Option.map_some, eV]
   ·rw [upd_ne _ _ hk, upd_ne _ _ hk, eS0]
 rw [e] at h3
 exact h3
end
section
variable {w0 w : World} {O : Nat → Prop} {L : MN} {n : Nat} {μ : Mu} {R : Rows} {P : Program} {st : St} {a : Act}
theorem iX [BA] {ps : List PV} {us : List Value} (h : EK w O μ R ps us) {sz : Nat} (hs : ∀ p ∈ ps, p.cells.length = sz) :
  (us.flatMap fun u => u.cells.toList).length = ps.length * sz ∧ ∀ (i : Nat) (x : PV) (j : Nat) (q : PV), ps[i]? = some x → x.cells[j]? = some q →
   ∃ v, (us.flatMap fun u => u.cells.toList)[i * sz + j]? = some v ∧ D8 w O μ R q v := by
 induction ps generalizing us with
 | nil =>
  cases us with
  | nil => exact ⟨by simp, fun i x j q hi => by simp at hi⟩
  | cons => exact absurd h.len (by simp)
 | cons p ps ih =>
  cases us with
  | nil => exact absurd h.len (by simp)
  | cons u us =>
   have hr := h.rel 0 p u rfl rfl
   obtain ⟨vs, h1, h2, h3⟩ := hr.cells
   have hp := hs p (by simp)
   obtain ⟨e1, e2⟩ := ih (us := us) ⟨by simpa using h.len, fun j p' u' hj hu => h.rel (j + 1) p' u' (by simpa using hj) (by simpa using hu)⟩ (fun p hp => hs p (by simp [hp]))
   have hul : u.cells.toList.length = sz := by rw [h1]; simp; omega
   refine ⟨?_, fun i x j q hi hj => ?_⟩
   ·rw [List.flatMap_cons, List.length_append, hul, e1, List.length_cons, Nat.add_mul]; omega
   ·rw [List.flatMap_cons]
    cases i with
    | zero =>
     simp at hi
     subst hi
     obtain ⟨hlt, _⟩ := List.getElem?_eq_some_iff.1 hj
     have hv : vs[j]? = some (vs[j]'(by omega)) := List.getElem?_eq_getElem (by omega)
     refine ⟨vs[j]'(by omega), ?_, h3 j q _ hj hv⟩
     rw [Nat.zero_mul, Nat.zero_add, List.getElem?_append_left (by omega), h1]
     exact hv
    | succ i =>
     obtain ⟨v, hv, hrel⟩ := e2 i x j q (by simpa using hi) hj
     refine ⟨v, ?_, hrel⟩
     rw [List.getElem?_append_right (by rw [hul, Nat.add_mul]; omega), hul, ← hv]
     congr 1
     rw [Nat.add_mul]
     omega
theorem rM [BA] {o : Oper} (hd : ∀ d, o.dst = some d → d < n) (h : BJ w0 O L n μ st a w) {ps : List PV} {sz : Nat} (hsz : 0 < sz) (hel : ∀ p ∈ ps, p.cells.length = sz ∧ ∀ q ∈ p.cells, q.one = true)
  (t : Nat) (ht : st.r t = none) {arr : Array Value} {e : TypeId} (hty : IP t = none) {fz : Nat × Nat} (hfz : ∀ j, j < arr.size → ¬ (fz.1 ≤ j ∧ j < fz.2)) {c : Nat} (hc : ps.length ≤ c) (hroom : c * sz ≤ arr.size)
  (hcells : ∀ (i : Nat) (x : PV) (j : Nat) (q : PV), ps[i]? = some x → x.cells[j]? = some q → ∃ v, arr[i * sz + j]? = some v ∧ D8 w (Av O μ st.r) μ st.r q v)
  (hrun : (execOp a.eval o).run P w = .ok (.value (.slice (some ⟨w.heap.size, 0, none⟩) ps.length c)) (w.alloc (.cells arr e fz))) :
  ∃ a' w', Done P o a w a' w' ∧ ∃ μ', BJ w0 O L n μ' (St.put ⟨st.s, upd st.r t (some ⟨sz, false, ps⟩)⟩ o.dst (.slr t 0 ps.length)) a' w' := by
 have h' := h.alloc t ht ⟨sz, false, ps⟩ arr e fz hsz hel (Nat.le_trans (Nat.mul_le_mul_right _ hc) hroom) hfz (fun k hk => by rw [hty] at hk; cases hk) (fun i x j q hi hj => by
  obtain ⟨v, hv, hr⟩ := hcells i x j q hi hj
  exact ⟨v, hv, by unfold D6; rw [if_neg (by simp)]; exact hr⟩)
 refine ⟨_, _, .inl ⟨_, hrun, rfl⟩, _, h'.put o.dst hd ?_⟩
 have := D8.slr (w := w.alloc (.cells arr e fz)) (O := Av O (upd μ t (some ⟨w.heap.size, 0, arr.size⟩)) (upd st.r t (some ⟨sz, false, ps⟩))) (μ := upd μ t (some ⟨w.heap.size, 0, arr.size⟩))
  (R := upd st.r t (some ⟨sz, false, ps⟩)) t 0 ps.length c ⟨sz, false, ps⟩ ⟨w.heap.size, 0, arr.size⟩ (upd_same _ _ _) (upd_same _ _ _) (by simp) hc (by simpa using hroom)
 simpa using this
theorem sW [BA] {o : Oper} {sz : Nat} {xs : List DD} (hc : SN P o = some (.bsl sz xs)) (hd : ∀ d, o.dst = some d → d < n) (h : BJ w0 O L n μ st a w) {ps : List PV} (hp : evs st.s xs = some ps)
  (hel : ∀ p ∈ ps, p.cells.length = sz ∧ (∀ q ∈ p.cells, q.one = true)) (t : Nat) (ht : st.r t = none) (hty : IP t = none) :
  ∃ a' w', Done P o a w a' w' ∧ ∃ μ', BJ w0 O L n μ' (St.put ⟨st.s, upd st.r t (some ⟨sz, false, ps⟩)⟩ o.dst (.slr t 0 ps.length)) a' w' := by
 cases JJ hc with
 | bsl t' e m parts _ z _ ho htt hsz hz hm hpi hb h0 hx =>
  obtain ⟨i, zv, hi, hzv, hzr, hzl, hzp, hzo⟩ := Q8 hz
  have hsz' : i.size = sz := by simp [PW, hi] at hsz; exact hsz
  have hr := PH h.slots _ _ _ hx hp
  obtain ⟨e1, e2⟩ := iX hr (fun p hp => (hel p hp).1)
  have hlen : ps.length = m := by have := hr.len; simp at this; omega
  have hpos : 0 < sz := by omega
  have hzc : zv.cells.size = sz := by
   obtain ⟨vs, h1, h2, _⟩ := (D8.base (μ := μ) (R := st.r) _ _ (hzr w O)).cells
   rw [h1]; simp; omega
  have hfill : ∀ (A : Array Value), A.size = m * sz → Instr.fill (fun i => some (i * sz, sz)) A (parts.toList.map fun x => (x.1, a.eval x.2)) =
    some (((parts.toList.map (·.2)).map a.eval).flatMap fun u => u.cells.toList).toArray := by
   intro A hA
   have := UQ sz hpos (parts.toList.map fun x => (x.1, a.eval x.2)) 0 A.toList (fun x hx => by
    obtain ⟨⟨i, y⟩, hy, rfl⟩ := List.mem_map.1 hx
    obtain ⟨j, hj⟩ := List.getElem?_of_mem hy
    have hj2 : ((parts.toList.map (·.2)).map a.eval)[j]? = some (a.eval y) := by simp [hj]
    obtain ⟨hlt, _⟩ := List.getElem?_eq_some_iff.1 hj2
    have hpj : ps[j]? = some (ps[j]'(by have := hr.len; omega)) := List.getElem?_eq_getElem (by have := hr.len; omega)
    have hrel := hr.rel j _ _ hpj hj2
    obtain ⟨vs, h1, h2, _⟩ := hrel.cells
    rw [h1]
    have := (hel _ (List.mem_of_getElem? hpj)).1
    simp
    omega) (by rw [List.map_map, show ((fun (x : Nat × Value) => x.1) ∘ fun (x : Nat × Operand) => (x.1, a.eval x.2)) = (fun x => x.1) from rfl]; simpa [List.range_eq_range', hm] using hpi) (by simp [hA, hm])
   rw [Array.toArray_toList] at this
   rw [this]
   simp [List.flatMap_map]
  have hA : ((Array.range (m * sz)).map (fun j => zv.cells[j % zv.cells.size]!)).size = m * sz := by simp
  have hrun : (execOp a.eval o).run P w = .ok (.value (.slice (some ⟨w.heap.size, 0, none⟩) ps.length m)) (w.alloc (.cells (((parts.toList.map (·.2)).map a.eval).flatMap fun u => u.cells.toList).toArray e)) := by
   simp only [execOp, ho]
   have hmz : m * sz ≠ 0 := Nat.mul_ne_zero (by omega) (by omega)
   have hzero : (zeroValue e).run P w = .ok zv w := by simp [zeroValue, typeInfo, hi, hzv]
   have hlist : (parts.map fun (x : Nat × Operand) => (x.1, a.eval x.2)).toList = parts.toList.map fun x => (x.1, a.eval x.2) := by simp
   unfold Instr.buildSlice
   simp only [Sem.run_bind, run_underlying htt, Result.andThen_ok, HZ hsz, Sem.run_ite, if_neg (show ¬ m * sz > 2 ^ 24 by omega), Sem.run_pure, if_neg hmz, hzero, hlist, hfill _ hA]
   simp [newRow, hlen]
  refine rM hd h hpos (fun p hp => ⟨(hel p hp).1, (hel p hp).2⟩) t ht hty (fz := (0, 0)) (fun j _ hj => by simp at hj) (by omega) (by simp only [List.size_toArray, e1, hlen]; exact Nat.le_refl _) (fun i x j q hi hj => ?_) hrun
  obtain ⟨v, hv, hrel⟩ := e2 i x j q hi hj
  exact ⟨v, by simpa using hv, hrel⟩
end
theorem vJ (r : Rows) : N7 AC r = r := rfl
theorem PG (t : Nat) (row : Row) (r : Rows) : N7 (upd AC t (some row)) r = upd r t (some row) := by
 funext u
 by_cases hu : u = t
 ·subst hu; simp [N7, upd_same]
 ·simp [N7, upd_ne _ _ hu, AC]
inductive PP [BA] (P : Program) : KY → EY → Rows → PV → Rows → Prop
 | pop {io : KY} {s : EY} {r : Rows} {p : PV} (h : pop s r io = some p) : PP P io s r p AC
 | box {e : Nat} {x : DD} {s : EY} {r : Rows} (p : PV) (t : Nat) (hp : x.ev s = some p) (hpos : 0 < p.cells.length) (hone : ∀ q ∈ p.cells, q.one = true) (hty : uB t e = true) :
   PP P (.box e x) s r (.ptr t 0 0) (upd AC t (some ⟨p.cells.length, false, [p]⟩))
 | bsl {sz : Nat} {xs : List DD} {s : EY} {r : Rows} (ps : List PV) (t : Nat) (hp : evs s xs = some ps) (hel : ∀ p ∈ ps, p.cells.length = sz ∧ (∀ q ∈ p.cells, q.one = true) ∧ p.free = true) (hty : IP t = none) :
   PP P (.bsl sz xs) s r (.slr t 0 ps.length) (upd AC t (some ⟨sz, true, ps⟩))
 | bslf {sz : Nat} {xs : List DD} {s : EY} {r : Rows} (ps : List PV) (t : Nat) (hp : evs s xs = some ps) (hel : ∀ p ∈ ps, p.cells.length = sz ∧ (∀ q ∈ p.cells, q.one = true) ∧ p.free = true) (hz : Nat.ble 1 sz = true) (hty : IP t = none) :
   PP P (.bsl sz xs) s r (.sl sz ps) (upd AC t (some ⟨sz, true, []⟩))
 | cvs {x : DD} {s : EY} {r : Rows} (b : List UInt8) (t : Nat) (hp : x.ev s = some (.str b)) (hty : IP t = none) : PP P (.cvs x) s r (.slr t 0 b.length) (upd AC t (some ⟨1, true, JN b⟩))
 | mks {sz bytes : Nat} {z : PV} {x : DD} {s : EY} {r : Rows} (k : IntKind) (m : Nat) (t : Nat) (hp : x.ev s = some (.int k (m : Int))) (hb : bytes * m ≤ 281474976710656) (hm : m ≤ 9223372036854775807) (hz : z.free = true) (hty : IP t = none) :
   PP P (.mks sz bytes z x) s r (.slr t 0 m) (upd AC t (some ⟨sz, true, List.replicate m z⟩))
 | call {f : FuncId} {xs : List DD} {s : EY} {r : Rows} (ps : List PV) (res : PV) (N : Rows) (hp : evs s xs = some ps) (hf : dF AC ps res N) (hs : Sat P f AC (ps.map (PV.bor AC r)) res N)
   (ht : res.tk (fun t => (N t).isSome) = true) (hn : ∀ t row, N t = some row → row.tk (fun u => (N u).isSome) = true) (htk : ∀ p ∈ ps, p.tk (fun t => (r t).isSome) = true) : PP P (.call f xs) s r res N
 | calv {g : DD} {xs : List DD} {s : EY} {r : Rows} (f : FuncId) (caps ps : List PV) (res : PV) (N : Rows) (hg : g.ev s = some (.clo f caps)) (hok : TP P f = true) (hp : evs s xs = some ps) (hf : dF AC (ps ++ caps) res N)
   (hs : Sat P f AC ((ps ++ caps).map (PV.bor AC r)) res N) (ht : res.tk (fun t => (N t).isSome) = true) (hn : ∀ t row, N t = some row → row.tk (fun u => (N u).isSome) = true) (htk : ∀ p ∈ ps ++ caps, p.tk (fun t => (r t).isSome) = true) : PP P (.calv g xs) s r res N
inductive XZ [BA] (P : Program) (T : Nat → Bool) : KY → Option Nat → St → St → Prop
 | pur {io : KY} {dst : Option Nat} {st : St} (p : PV) (N : Rows) (h : PP P io st.s st.r p N) (hn : ∀ t row, N t = some row → st.r t = none) : XZ P T io dst st (St.put ⟨st.s, N7 N st.r⟩ dst p)
 | bslp {sz : Nat} {xs : List DD} {dst : Option Nat} {st : St} (ps : List PV) (t : Nat) (hp : evs st.s xs = some ps) (hel : ∀ p ∈ ps, p.cells.length = sz ∧ ∀ q ∈ p.cells, q.one = true) (ht : st.r t = none) (hty : IP t = none) :
   XZ P T (.bsl sz xs) dst st (St.put ⟨st.s, upd st.r t (some ⟨sz, false, ps⟩)⟩ dst (.slr t 0 ps.length))
 | store {sz : Nat} {p q : DD} {dst : Option Nat} {st : St} (t i off : Nat) (row : Row) (x y : PV) (hp : p.ev st.s = some (.ptr t i off)) (hq : q.ev st.s = some x) (ht : st.r t = some row) (hi : row.cs[i]? = some y)
   (hx : x.cells.length = sz) (h0 : 0 < sz) (hone : ∀ c ∈ x.cells, c.one = true) (hfit : off + sz ≤ row.sz) (hpr : row.pr = true → x.free = true) :
   XZ P T (.store sz p q) dst st (St.put ⟨st.s, upd st.r t (some ⟨row.sz, row.pr, row.cs.set i (uH y off x.cells)⟩)⟩ dst .undef)
 | app {e sz bytes : Nat} {x y : DD} {dst : Option Nat} {st : St} (p q : PV) (tok : Option Nat) (xs ys : List PV) (t' : Nat) (hp : x.ev st.s = some p) (hq : y.ev st.s = some q) (hb : VT st.r sz p = some (tok, xs)) (hT : ∀ t, tok = some t → T t = false) (he : UR st.r sz q = some ys)
   (hb0 : 0 < bytes) (hle : (xs.length + ys.length) * bytes ≤ 140737488355328) (ht' : st.r t' = none) (hty : UZ t' e p = true) : XZ P T (.app e sz bytes x y) dst st (St.put (XX st tok t' ⟨sz, true, xs ++ ys⟩) dst (.slr t' 0 (xs.length + ys.length)))
 | aps {e : Nat} {x y : DD} {dst : Option Nat} {st : St} (p : PV) (b : List UInt8) (tok : Option Nat) (xs : List PV) (t' : Nat) (hp : x.ev st.s = some p) (hq : y.ev st.s = some (.str b)) (hb : VT st.r 1 p = some (tok, xs)) (hT : ∀ t, tok = some t → T t = false)
   (hle : xs.length + b.length ≤ 140737488355328) (ht' : st.r t' = none) (hty : UZ t' e p = true) : XZ P T (.aps e x y) dst st (St.put (XX st tok t' ⟨1, true, xs ++ JN b⟩) dst (.slr t' 0 (xs.length + b.length)))
 | lend {f : FuncId} {xs : List DD} {dst : Option Nat} {st : St} (ps : List PV) (Ri Ro : Rows) (res : PV) (hp : evs st.s xs = some ps) (hok : NV st Ri Ro) (hf : dF Ri ps res Ro) (hs : Sat P f Ri (ps.map (PV.bor Ri st.r)) res Ro) :
   XZ P T (.call f xs) dst st (St.put ⟨st.s, N7 Ro st.r⟩ dst res)
 | lendC {f : FuncId} {xs : List DD} {dst : Option Nat} {st : St} (ps : List PV) (Ri Ro : Rows) (res : PV) (hp : evs st.s xs = some ps) (hok : NV st Ri Ro) (hf : dF Ri ps res Ro) (hs : Lp P f Ri (ps.map (PV.bor Ri st.r)) res Ro)
   (hT : ∀ t, gone Ri Ro t = true → T t = false) : XZ P T (.call f xs) dst st (St.put ⟨iN (gone Ri Ro) st.s, N7 Ro (I9 (gone Ri Ro) st.r)⟩ dst res)
 | lendv {g : DD} {xs : List DD} {dst : Option Nat} {st : St} (f : FuncId) (caps ps : List PV) (Ri Ro : Rows) (res : PV) (hg : g.ev st.s = some (.clo f caps)) (hokf : TP P f = true) (hp : evs st.s xs = some ps) (hok : NV st Ri Ro)
   (hf : dF Ri (ps ++ caps) res Ro) (hs : Sat P f Ri ((ps ++ caps).map (PV.bor Ri st.r)) res Ro) : XZ P T (.calv g xs) dst st (St.put ⟨st.s, N7 Ro st.r⟩ dst res)
section
variable {w0 w : World} {O : Nat → Prop} {L : MN} {n : Nat} {μ : Mu} {P : Program} {st st' : St} {a : Act}
theorem Done.goes {o : Oper} {a' : Act} {w' : World} {K : Act → World → Prop} (h : Done P o a w a' w') (hk : K a' w') (Q : Exit → Act → World → Prop) : o.wp P a w K Q := by
 unfold Oper.wp
 rcases h with ⟨v, h, rfl⟩ | ⟨h, rfl⟩ <;> (rw [h]; exact hk)
theorem TN {f : FuncId} (h : TP P f = true) (args : Array Value) (w : World) : (callFunc f args).run P w = .ok (.enter f args) w := by
 unfold TP at h
 cases hf : P.funcs[f]? with
 | none => simp [hf] at h
 | some fn =>
  simp only [hf, Bool.and_eq_true, bne_iff_ne, ne_eq] at h
  have h1 : (fn.name == "runtime.NumGoroutine") = false := beq_eq_false_iff_ne.2 h.2
  have h2 : fn.body.isNone = false := by cases hb : fn.body <;> simp_all
  have h2' : ¬ fn.body = none := by intro e; rw [e] at h2; cases h2
  simp [callFunc, hf, h.2, h2']
theorem WK {o : Oper} {f : FuncId} {vs : List Value} {K : Act → World → Prop} (hrun : (execOp a.eval o).run P w = .ok (.enter f vs.toArray) w)
  (h : Calls P f vs.toArray w fun e w' => ∃ v, e = .returned v ∧ K (a.put o.dst v) w') (Q : Exit → Act → World → Prop) : o.wp P a w K Q := by
 unfold Oper.wp
 rw [hrun, Oper.upon_enter]
 refine h.mono ?_
 rintro e w' ⟨v, rfl, hk⟩
 exact hk
theorem EK.append {w : World} {O : Nat → Prop} {μ : Mu} {R : Rows} {ps qs : List PV} {us vs : List Value} (h : EK w O μ R ps us) (k : EK w O μ R qs vs) : EK w O μ R (ps ++ qs) (us ++ vs) := by
 refine ⟨by simp [h.len, k.len], fun j p u hj hu => ?_⟩
 by_cases hlt : j < ps.length
 ·rw [List.getElem?_append_left hlt] at hj
  rw [List.getElem?_append_left (by rw [h.len]; exact hlt)] at hu
  exact h.rel j p u hj hu
 ·rw [List.getElem?_append_right (by omega)] at hj
  rw [List.getElem?_append_right (by rw [h.len]; omega), h.len] at hu
  exact k.rel _ p u hj hu
theorem D8.clo_inv {w : World} {O : Nat → Prop} {μ : Mu} {R : Rows} {f : FuncId} {caps : List PV} {v : Value} (h : D8 w O μ R (.clo f caps) v) : ∃ vs : List Value, v = .func (.func f) #[] vs.toArray ∧ EK w O μ R caps vs := by
 cases h with
 | base _ _ h => cases h with | clo _ _ vs hl h => exact ⟨vs, rfl, hl, fun j p u hj hu => .base _ _ (h j p u hj hu)⟩
 | clo _ _ vs hl h => exact ⟨vs, rfl, hl, h⟩
theorem NV.none {N : Rows} (h : ∀ t row, N t = some row → st.r t = .none) : NV st AC N :=
 ⟨fun t row ht => by simp [AC] at ht, fun t row ht _ => h t row ht⟩
theorem fE [BA] {o : Oper} {f : FuncId} {xs : List DD} (hc : SN P o = some (.call f xs)) (hd : ∀ d, o.dst = some d → d < n) (h : BJ w0 O L n μ st a w) {ps : List PV} {Ri Ro : Rows} {res : PV} (hp : evs st.s xs = some ps) (hok : NV st Ri Ro) (hf : dF Ri ps res Ro)
  (hs : Sat P f Ri (ps.map (PV.bor Ri st.r)) res Ro) {K : Act → World → Prop} (hK : ∀ μ' a' w', BJ w0 O L n μ' (St.put ⟨st.s, N7 Ro st.r⟩ o.dst res) a' w' → K a' w') (Q : Exit → Act → World → Prop) : o.wp P a w K Q := by
 cases JJ hc with
 | call c _ _ ho hcal hfo hx =>
  have hv := PH h.slots _ _ _ hx hp
  refine WK (vs := c.args.toList.map a.eval) ?_ (gG h hok hf hs hv o.dst hd fun μ' v w' hst => hK μ' _ w' hst) Q
  have hargs : c.args.map a.eval = (c.args.toList.map a.eval).toArray := by rw [← List.map_toArray, Array.toArray_toList]
  simp only [execOp, ho, resolve, hcal, hargs]
  simp [invoke, Deferred.ofValue, Act.eval, TN hfo]
theorem mZ [BA] {o : Oper} {f : FuncId} {xs : List DD} (hc : SN P o = some (.call f xs)) (hd : ∀ d, o.dst = some d → d < n) (h : BJ w0 O L n μ st a w) {ps : List PV} {Ri Ro : Rows} {res : PV} (hp : evs st.s xs = some ps) (hok : NV st Ri Ro) (hf : dF Ri ps res Ro)
  (hs : Lp P f Ri (ps.map (PV.bor Ri st.r)) res Ro) (hT : ∀ t, gone Ri Ro t = true → L.T t = false) {K : Act → World → Prop} (hK : ∀ μ' a' w', BJ w0 O L n μ' (St.put ⟨iN (gone Ri Ro) st.s, N7 Ro (I9 (gone Ri Ro) st.r)⟩ o.dst res) a' w' → K a' w') (Q : Exit → Act → World → Prop) : o.wp P a w K Q := by
 cases JJ hc with
 | call c _ _ ho hcal hfo hx =>
  have hv := PH h.slots _ _ _ hx hp
  refine WK (vs := c.args.toList.map a.eval) ?_ (o5 h hok hf hs hv o.dst hd hT fun μ' v w' hst => hK μ' _ w' hst) Q
  have hargs : c.args.map a.eval = (c.args.toList.map a.eval).toArray := by rw [← List.map_toArray, Array.toArray_toList]
  simp only [execOp, ho, resolve, hcal, hargs]
  simp [invoke, Deferred.ofValue, Act.eval, TN hfo]
theorem bF [BA] {o : Oper} {g : DD} {xs : List DD} (hc : SN P o = some (.calv g xs)) (hd : ∀ d, o.dst = some d → d < n) (h : BJ w0 O L n μ st a w) {f : FuncId} {caps ps : List PV} {Ri Ro : Rows} {res : PV} (hg : g.ev st.s = some (.clo f caps)) (hokf : TP P f = true)
  (hp : evs st.s xs = some ps) (hok : NV st Ri Ro) (hf : dF Ri (ps ++ caps) res Ro) (hs : Sat P f Ri ((ps ++ caps).map (PV.bor Ri st.r)) res Ro) {K : Act → World → Prop} (hK : ∀ μ' a' w', BJ w0 O L n μ' (St.put ⟨st.s, N7 Ro st.r⟩ o.dst res) a' w' → K a' w') (Q : Exit → Act → World → Prop) :
  o.wp P a w K Q := by
 cases JJ hc with
 | calv c g' _ _ ho hcal hgc hx =>
  have hv := PH h.slots _ _ _ hx hp
  obtain ⟨us, hu, hcu⟩ := (CR h.slots hgc hg).clo_inv
  refine WK (vs := c.args.toList.map a.eval ++ us) ?_ (gG h hok hf hs (hv.append hcu) o.dst hd fun μ' v w' hst => hK μ' _ w' hst) Q
  simp only [execOp, ho, resolve, hcal, hu, Deferred.ofValue]
  simp [invoke, TN hokf]
theorem XZ.goes [BA] {o : Oper} {io : KY} (hc : Ed P o = some io ∨ (SN P o = some io)) (hx : ∀ p, pop st.s st.r io = some p → Ed P o = some io) (hx2 : pop st.s st.r io = none → SN P o = some io) (hd : ∀ d, o.dst = some d → d < n) (h : BJ w0 O L n μ st a w) (hs : XZ P L.T io o.dst st st') {K : Act → World → Prop}
  (hK : ∀ μ' a' w', BJ w0 O L n μ' st' a' w' → K a' w') (Q : Exit → Act → World → Prop) : o.wp P a w K Q := by
 cases hs with
 | pur p N hp hn =>
  cases hp with
  | pop hp =>
   obtain ⟨a', w', hd', μ', hst⟩ := uX (hx p hp) hd h hp
   exact hd'.goes (hK μ' a' w' hst) Q
  | box p t hp hpos hone hty =>
   have ht : st.r t = none := hn t _ (upd_same _ _ _)
   obtain ⟨a', w', hd', μ', hst⟩ := yR (hx2 rfl) hd h hp hpos hone t ht hty
   rw [← PG] at hst
   exact hd'.goes (hK μ' a' w' hst) Q
  | bsl ps t hp hel hty =>
   have ht : st.r t = none := hn t _ (upd_same _ _ _)
   obtain ⟨a', w', hd', μ', hst⟩ := lM (hx2 rfl) hd h hp hel t ht hty
   rw [← PG] at hst
   exact hd'.goes (hK μ' a' w' hst) Q
  | bslf ps t hp hel hz hty =>
   have ht : st.r t = none := hn t _ (upd_same _ _ _)
   obtain ⟨a', w', hd', μ', hst⟩ := sZ (hx2 rfl) hd h hp hel hz t ht hty
   rw [← PG] at hst
   exact hd'.goes (hK μ' a' w' hst) Q
  | cvs b t hp hty =>
   have ht : st.r t = none := hn t _ (upd_same _ _ _)
   obtain ⟨a', w', hd', μ', hst⟩ := yC (hx2 rfl) hd h hp t ht hty
   rw [← PG] at hst
   exact hd'.goes (hK μ' a' w' hst) Q
  | mks k m t hp hb hm hz hty =>
   have ht : st.r t = none := hn t _ (upd_same _ _ _)
   obtain ⟨a', w', hd', μ', hst⟩ := vK (hx2 rfl) hd h hp hb hm hz t ht hty
   rw [← PG] at hst
   exact hd'.goes (hK μ' a' w' hst) Q
  | call ps _ _ hp hf hs ht hn' _ => exact fE (hx2 rfl) hd h hp (NV.none hn) hf hs hK Q
  | calv f caps ps _ _ hg hok hp hf hs ht hn' _ => exact bF (hx2 rfl) hd h hg hok hp (NV.none hn) hf hs hK Q
 | bslp ps t hp hel ht hty =>
  obtain ⟨a', w', hd', μ', hst⟩ := sW (hx2 rfl) hd h hp hel t ht hty
  exact hd'.goes (hK μ' a' w' hst) Q
 | store t i off row x y hp hq ht hi hx' h0 hone hfit hpr =>
  obtain ⟨a', w', hd', μ', hst⟩ := mH (hx2 rfl) hd h hp hq ht hi hx' h0 hone hfit hpr
  exact hd'.goes (hK μ' a' w' hst) Q
 | app p q tok xs ys t' hp hq hb hT he hb0 hle ht' hty =>
  obtain ⟨a', w', hd', μ', hst⟩ := yV (hx2 rfl) hd h hp hq hb hT he hb0 hle t' ht' hty
  exact hd'.goes (hK μ' a' w' hst) Q
 | aps p b tok xs t' hp hq hb hT hle ht' hty =>
  obtain ⟨a', w', hd', μ', hst⟩ := yU (hx2 rfl) hd h hp hq hb hT hle t' ht' hty
  exact hd'.goes (hK μ' a' w' hst) Q
 | lend ps Ri Ro res hp hok hf hs => exact fE (hx2 rfl) hd h hp hok hf hs hK Q
 | lendC ps Ri Ro res hp hok hf hs hT => exact mZ (hx2 rfl) hd h hp hok hf hs hT hK Q
 | lendv f caps ps Ri Ro res hg hokf hp hok hf hs => exact bF (hx2 rfl) hd h hg hokf hp hok hf hs hK Q
end
def wR : KY → Bool
 | .box _ _ | .bsl _ _ | .cvs _ | .mks _ _ _ _ | .store _ _ _ | .app _ _ _ _ _ | .aps _ _ _ | .call _ _ | .calv _ _ => true
 | _ => false
def gF (P : Program) (o : Oper) : Option KY :=
 match SN P o with
 | some io => some io
 | none => match Ed P o with
  | some io => bif wR io then none else some io
  | none => none
structure Ins where
 dst : Option Nat
 op : KY
 guard : Option (Nat × Bool)
def YQ (ops : Array Oper) : Option (Nat × Bool) → Option (Option (Nat × Bool))
 | none => some none
 | some (j, b) => match (ops[j]?).bind (·.dst) with
  | some g => some (some (g, b))
  | none => none
def Ef (P : Program) (n : Nat) (ops : Array Oper) (o : Oper) : Option Ins :=
 match gF P o, YQ ops o.guard with
 | some io, some g => if (o.dst.all fun d => decide (d < n)) = true then some ⟨o.dst, io, g⟩ else none
 | _, _ => none
def WR (P : Program) (n : Nat) (ops : Array Oper) : List Oper → Option (List Ins)
 | [] => some []
 | o :: r => match Ef P n ops o, WR P n ops r with
  | some x, some q => some (x :: q)
  | _, _ => none
def UF (s : EY) : Option (Nat × Bool) → Option Bool
 | none => some true
 | some (g, b) => match s g with
  | some (.bool c) => some (c == b)
  | some .undef => some false
  | _ => none
inductive Step [BA] (P : Program) (T : Nat → Bool) : Ins → St → St → Prop
 | run {io : Ins} {st st' : St} (hg : UF st.s io.guard = some true) (h : XZ P T io.op io.dst st st') : Step P T io st st'
 | skip {io : Ins} {st : St} (hg : UF st.s io.guard = some false) : Step P T io st (st.put io.dst .undef)
def C9 [BA] (T : Nat → Bool) (st st' : St) : Prop := ∀ (w0 : World) (O : Nat → Prop) (L : MN) (n : Nat) (μ : Mu) (a : Act) (w : World), L.T = T → BJ w0 O L n μ st a w → ∃ μ', BJ w0 O L n μ' st' a w
inductive Steps [BA] (P : Program) (T : Nat → Bool) : List Ins → St → St → Prop
 | nil {st : St} : Steps P T [] st st
 | cons {io : Ins} {l : List Ins} {st st1 st2 : St} (h : Step P T io st st1) (k : Steps P T l st1 st2) : Steps P T (io :: l) st st2
 | norm {l : List Ins} {st st1 st2 : St} (h : C9 T st st1) (k : Steps P T l st1 st2) : Steps P T l st st2
section
variable {w0 w : World} {O : Nat → Prop} {L : MN} {n : Nat} {μ : Mu} {P : Program} {st st' : St} {a : Act}
theorem yJ [BA] {o : Oper} {io : KY} (h : SN P o = some io) : wR io = true := by
 cases JJ h <;> rfl
theorem sV [BA] {o : Oper} {io : KY} (h : gF P o = some io) : (wR io = true ∧ SN P o = some io) ∨ (wR io = false ∧ Ed P o = some io) := by
 unfold gF at h
 cases h1 : SN P o with
 | some x => simp only [h1, Option.some.injEq] at h; subst h; exact .inl ⟨yJ h1, rfl⟩
 | none =>
  simp only [h1] at h
  cases h2 : Ed P o with
  | none => simp [h2] at h
  | some x =>
   simp only [h2] at h
   cases hx : wR x with
   | true => rw [hx] at h; cases h
   | false => rw [hx, cond_false, Option.some.injEq] at h; subst h; exact .inr ⟨hx, rfl⟩
theorem Ap {s : EY} {r : Rows} {io : KY} (h : wR io = true) : pop s r io = none := by
 cases io <;> first | rfl | simp [wR] at h
theorem XZ.goes' [BA] {o : Oper} {io : KY} (hc : gF P o = some io) (hd : ∀ d, o.dst = some d → d < n) (h : BJ w0 O L n μ st a w) (hs : XZ P L.T io o.dst st st') {K : Act → World → Prop}
  (hK : ∀ μ' a' w', BJ w0 O L n μ' st' a' w' → K a' w') (Q : Exit → Act → World → Prop) : o.wp P a w K Q := by
 rcases sV hc with ⟨h1, h2⟩ | ⟨h1, h2⟩
 ·exact hs.goes (.inr h2) (fun p hp => by rw [Ap h1] at hp; cases hp) (fun _ => h2) hd h hK Q
 ·have : ∃ p, pop st.s st.r io = some p := by
   cases hs with
   | pur p N hp hn => cases hp <;> first | exact ⟨_, by assumption⟩ | simp [wR] at h1
   | _ => simp [wR] at h1
  obtain ⟨p, hp⟩ := this
  exact hs.goes (.inl h2) (fun _ _ => h2) (fun hno => by rw [hp] at hno; cases hno) hd h hK Q
theorem Dc {ops : Array Oper} {o : Oper} {io : Ins} (h : Ef P n ops o = some io) : gF P o = some io.op ∧ io.dst = o.dst ∧ (∀ d, o.dst = some d → d < n) ∧ YQ ops o.guard = some io.guard := by
 unfold Ef at h
 cases h1 : gF P o with
 | none => simp [h1] at h
 | some x =>
  cases h2 : YQ ops o.guard with
  | none => simp [h1, h2] at h
  | some g =>
   simp only [h1, h2] at h
   split at h
   ·rename_i hd
    cases h
    refine ⟨rfl, rfl, fun d hd' => ?_, rfl⟩
    rw [hd'] at hd
    simpa using hd
   ·cases h
theorem eD [BA] {ops : Array Oper} {o : Oper} {g : Option (Nat × Bool)} (hg : YQ ops o.guard = some g) (h : BJ w0 O L n μ st a w) {b : Bool} (hb : UF st.s g = some b) : Region.wanted o (yielded ops a.tmps) = b := by
 unfold Region.wanted
 cases ho : o.guard with
 | none =>
  rw [ho] at hg
  simp only [YQ, Option.some.injEq] at hg
  subst hg
  simp only [UF, Option.some.injEq] at hb
  exact hb
 | some jb =>
  obtain ⟨j, want⟩ := jb
  rw [ho] at hg
  simp only [YQ] at hg
  cases hj : (ops[j]?).bind (·.dst) with
  | none => simp [hj] at hg
  | some d =>
   simp only [hj, Option.some.injEq] at hg
   subst hg
   simp only [UF] at hb
   simp only [yielded, hj, Option.bind_some]
   cases hs : st.s d with
   | none => simp [hs] at hb
   | some p =>
    obtain ⟨v, hv, hr⟩ := h.slot d p hs
    cases p <;> simp only [hs] at hb <;> try (cases hb; done)
    case bool c =>
     cases hb
     cases hr.bool_inv
     simp only [hv]
     cases c <;> cases want <;> rfl
    case undef =>
     cases hb
     have : v = undef := by cases hr with | base _ _ h => cases h; rfl
     subst this
     simp only [hv]
     cases want <;> rfl
theorem Step.goes [BA] {ops : Array Oper} {i : Nat} {o : Oper} {io : Ins} (hi : ops[i]? = some o) (hc : Ef P n ops o = some io) (h : BJ w0 O L n μ st a w) (hs : Step P L.T io st st') {Q : Exit → Act → World → Prop} {K : Act → World → Prop}
  (hK : ∀ μ' a' w', BJ w0 O L n μ' st' a' w' → K a' w') : wpOp P ops Q i K a w := by
 obtain ⟨h1, h2, h3, h4⟩ := Dc hc
 unfold wpOp
 simp only [hi]
 cases hs with
 | run hg hop =>
  rw [eD h4 h hg, if_pos rfl]
  rw [h2] at hop
  exact .inl (hop.goes' h1 h3 h hK Q)
 | skip hg =>
  rw [eD h4 h hg, if_neg (by simp)]
  rw [h2] at hK
  exact hK μ _ _ (h.put o.dst h3 (.base _ _ .undef))
theorem QA [BA] {ops : Array Oper} : ∀ {l : List Oper} {q : List Ins}, WR P n ops l = some q → l.length = q.length ∧ ∀ (j : Nat) (o : Oper) (io : Ins), l[j]? = some o → q[j]? = some io → Ef P n ops o = some io
 | [], q, h => by
  simp only [WR, Option.some.injEq] at h
  subst h
  exact ⟨rfl, fun j o io hj => by simp at hj⟩
 | o :: r, q, h => by
  simp only [WR] at h
  cases h1 : Ef P n ops o with
  | none => simp [h1] at h
  | some x =>
   cases h2 : WR P n ops r with
   | none => simp [h1, h2] at h
   | some q' =>
    simp only [h1, h2, Option.some.injEq] at h
    subst h
    obtain ⟨e1, e2⟩ := QA h2
    refine ⟨by simp [e1], fun j o' io' hj hio => ?_⟩
    cases j with
    | zero => simp at hj hio; subst hj; subst hio; exact h1
    | succ j => exact e2 j o' io' (by simpa using hj) (by simpa using hio)
theorem jP [BA] {ops : Array Oper} {Q : Exit → Act → World → Prop} {all : List Ins} (hc : WR P n ops ops.toList = some all) {l : List Ins} {st st' : St} (hs : Steps P L.T l st st') :
  ∀ (k : Nat), all.drop k = l → ∀ (μ : Mu) (a : Act) (w : World), BJ w0 O L n μ st a w → (∀ μ' a' w', BJ w0 O L n μ' st' a' w' → Q .normal a' w') → wpOps P ops Q (List.range' k l.length) a w := by
 obtain ⟨hlen, hget⟩ := QA hc
 induction hs with
 | nil => intro k hk μ a w h hQ; exact hQ μ a w h
 | norm hn hk ih =>
  intro k hkk μ a w h hQ
  obtain ⟨μ', h'⟩ := hn _ _ _ _ _ _ _ rfl h
  exact ih k hkk μ' a w h' hQ
 | cons hstep hrest ih =>
  rename_i io l st st1 st2
  intro k hk μ a w h hQ
  have hkk : all[k]? = some io := by
   have := congrArg (fun m => m[0]?) hk
   simpa using this
  obtain ⟨hlt, _⟩ := List.getElem?_eq_some_iff.1 hkk
  have hlt' : k < ops.toList.length := by omega
  have ho : ops.toList[k]? = some (ops.toList[k]'hlt') := List.getElem?_eq_getElem hlt'
  have ho2 : ops[k]? = some (ops.toList[k]'hlt') := by rw [← Array.getElem?_toList]; exact ho
  rw [List.length_cons, List.range'_succ, wpOps_cons]
  refine Step.goes ho2 (hget k _ io ho hkk) h hstep fun μ' a' w' h' => ?_
  refine ih (k + 1) ?_ μ' a' w' h' hQ
  have := congrArg List.tail hk
  simpa [List.tail_drop] using this
end
end Go.Vd
end
