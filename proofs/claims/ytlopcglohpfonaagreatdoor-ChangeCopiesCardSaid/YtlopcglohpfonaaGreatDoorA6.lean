/- A part of the proof: a logic of values, rows and steps. -/
import Derived.Test.YtlopcglohpfonaaGreatDoorA4
import Derived.ChangeOld
section
set_option linter.unusedVariables false
set_option linter.unusedSimpArgs false
namespace Go.Vd
open Go.RowKit Go.ChangeShapes Go.WideShapes
def kX (P : Program) (g : TypeId → Option (List TypeId)) : Nat → List Field → Option (List TypeId)
 | _, [] => some []
 | off, f :: fs => if f.offset = off then (g f.type).bind fun l => if l.length = P.cellsOf f.type then (kX P g (off + l.length) fs).map (l ++ ·) else none else none
def bQ (P : Program) (l : List TypeId) : Nat → List TypeId
 | 0 => []
 | n + 1 => l ++ bQ P l n
def leaf (P : Program) (t : TypeId) : Bool := match P.underlying t with
 | some .bool | some (.int _) | some .string | some (.slice _) => true
 | _ => false
def flat (P : Program) : Nat → TypeId → Option (List TypeId)
 | 0, _ => none
 | m + 1, t => match P.underlying t with
  | some .bool => some [t]
  | some (.int _) => some [t]
  | some .string => some [t]
  | some (.slice _) => some [t]
  | some (.struct fs) => (kX P (flat P m) 0 fs.toList).bind fun l => if l.length = P.cellsOf t then some l else none
  | some (.array n e) => (flat P m e).bind fun l => if l.length = P.cellsOf e ∧ n * l.length = P.cellsOf t then some (bQ P l n) else none
  | _ => none
def isAgg (P : Program) (t : TypeId) : Bool := !leaf P t
def tJ (b : Bool) (cs : List PV) : PV := if b then .agg cs else cs.headD .any
inductive VI (P : Program) (m : Nat) : TypeId → PV → Prop
 | int (t : TypeId) (k : IntKind) (n : Int) (h : P.underlying t = some (.int k)) (hw : (Lit.int k n).wf = true) : VI P m t (.int k n)
 | bool (t : TypeId) (b : Bool) (h : P.underlying t = some .bool) : VI P m t (.bool b)
 | str (t : TypeId) (s : List UInt8) (h : P.underlying t = some .string) (hs : s.length ≤ maxLen) : VI P m t (.str s)
 | sl (t e : TypeId) (ts : List TypeId) (xs : List PV) (h : P.underlying t = some (.slice e)) (hf : flat P m e = some ts) (hl : xs.length ≤ maxLen)
   (ha : ∀ x ∈ xs, x.cells.length = ts.length) (hb : ∀ x ∈ xs, x = tJ (isAgg P e) x.cells)
   (hc : ∀ x ∈ xs, ∀ (j : Nat) (u : TypeId) (p : PV), ts[j]? = some u → x.cells[j]? = some p → VI P m u p) : VI P m t (.sl ts.length xs)
theorem VI.one {P : Program} {m : Nat} {t : TypeId} {p : PV} (h : VI P m t p) : p.one = true := by cases h <;> rfl
def okT (P : Program) (m : Nat) (T : List TypeId) : Bool :=
 T.all fun t => match flat P m t with
  | some ts => decide (ts.length = P.cellsOf t) && decide (0 < ts.length) && (leaf P t == false || ts.length == 1) && ts.all fun u => match P.underlying u with
   | some (.slice e) => T.contains e
   | _ => true
  | none => false
def Cs (P : Program) (m : Nat) (w : World) (ts : List TypeId) (cs : List Value) : Prop :=
 cs.length = ts.length ∧ ∀ (j : Nat) (t : TypeId) (v : Value), ts[j]? = some t → cs[j]? = some v → ∃ p, VI P m t p ∧ DZ w (fun _ => False) p v
theorem Cs.app {P : Program} {m : Nat} {w : World} {ts ts' : List TypeId} {cs cs' : List Value} (h : Cs P m w ts cs) (h' : Cs P m w ts' cs') : Cs P m w (ts ++ ts') (cs ++ cs') := by
 refine ⟨by simp [h.1, h'.1], fun j t v ht hv => ?_⟩
 by_cases hj : j < ts.length
 ·rw [List.getElem?_append_left hj] at ht
  rw [List.getElem?_append_left (by rw [h.1]; exact hj)] at hv
  exact h.2 j t v ht hv
 ·rw [List.getElem?_append_right (by omega)] at ht
  rw [List.getElem?_append_right (by rw [h.1]; omega), h.1] at hv
  exact h'.2 _ t v ht hv
theorem Cs.pv {P : Program} {m : Nat} {w : World} {ts : List TypeId} {cs : List Value} (h : Cs P m w ts cs) :
  ∃ ps : List PV, ps.length = ts.length ∧ (∀ (j : Nat) (t : TypeId) (p : PV), ts[j]? = some t → ps[j]? = some p → VI P m t p) ∧
   ∀ (j : Nat) (p : PV) (v : Value), ps[j]? = some p → cs[j]? = some v → DZ w (fun _ => False) p v := by
 have hex : ∀ j : Nat, ∃ p : PV, ∀ t v, ts[j]? = some t → cs[j]? = some v → VI P m t p ∧ DZ w (fun _ => False) p v := by
  intro j
  by_cases hj : j < ts.length
  ·obtain ⟨p, h1, h2⟩ := h.2 j ts[j] (cs[j]'(by rw [h.1]; exact hj)) (List.getElem?_eq_getElem _) (List.getElem?_eq_getElem _)
   refine ⟨p, fun t v ht hv => ?_⟩
   rw [List.getElem?_eq_getElem hj] at ht
   rw [List.getElem?_eq_getElem (by rw [h.1]; exact hj)] at hv
   cases ht; cases hv
   exact ⟨h1, h2⟩
  ·exact ⟨.any, fun t v ht => by rw [List.getElem?_eq_none (by omega)] at ht; cases ht⟩
 let f : Nat → PV := fun j => Classical.choose (hex j)
 have hf : ∀ j t v, ts[j]? = some t → cs[j]? = some v → VI P m t (f j) ∧ DZ w (fun _ => False) (f j) v := fun j => Classical.choose_spec (hex j)
 have hget : ∀ (j : Nat) (p : PV), ((List.range ts.length).map f)[j]? = some p → j < ts.length ∧ p = f j := by
  intro j p hp
  rw [List.getElem?_map] at hp
  by_cases hj : j < ts.length
  ·rw [List.getElem?_range hj] at hp
   simp at hp
   exact ⟨hj, hp.symm⟩
  ·rw [List.getElem?_eq_none (by simp; omega)] at hp
   simp at hp
 refine ⟨(List.range ts.length).map f, by simp, fun j t p ht hp => ?_, fun j p v hp hv => ?_⟩
 ·obtain ⟨hj, rfl⟩ := hget j p hp
  exact (hf j t _ ht (List.getElem?_eq_getElem (l := cs) (by rw [h.1]; exact hj))).1
 ·obtain ⟨hj, rfl⟩ := hget j p hp
  exact (hf j _ v (List.getElem?_eq_getElem hj) hv).2
section
variable {H : Type} {enc : TypeId × Value → H} {P : Program} {w : World} {base : Nat} {spare : Nat → Bool} {held : Bool} {m : Nat} {T : List TypeId}
theorem xN {g : TypeId → Option (List TypeId)} {n : Nat} {cs : List Value} (hg : ∀ t ts cs x, g t = some ts → (∀ u ∈ ts, ∀ e, P.underlying u = some (.slice e) → e ∈ T) → DataW.trod enc P w base spare held n t cs = some x → Cs P m w ts cs) :
  ∀ (fs : List Field) (off : Nat) (ts : List TypeId), kX P g off fs = some ts → (∀ u ∈ ts, ∀ e, P.underlying u = some (.slice e) → e ∈ T) → (cs.drop off).length = ts.length →
  (∀ f ∈ fs, ∃ x, DataW.trod enc P w base spare held n f.type ((cs.drop f.offset).take (P.cellsOf f.type)) = some x) → Cs P m w ts (cs.drop off) := by
 intro fs
 induction fs with
 | nil =>
  intro off ts h _ hl _
  simp [kX] at h
  subst h
  rw [List.length_eq_zero_iff.1 hl]
  exact ⟨rfl, fun j t v ht => by simp at ht⟩
 | cons f fs ih =>
  intro off ts h hu hl hx
  unfold kX at h
  split at h
  case isFalse => cases h
  rename_i ho
  rw [Option.bind_eq_some_iff] at h
  obtain ⟨l, hlf, h⟩ := h
  split at h
  case isFalse => cases h
  rename_i hc
  rw [Option.map_eq_some_iff] at h
  obtain ⟨l', hl', rfl⟩ := h
  obtain ⟨x, hx0⟩ := hx f List.mem_cons_self
  have h1 := hg _ _ _ _ hlf (fun u hu' => hu u (List.mem_append_left _ hu')) hx0
  rw [ho, ← hc] at h1
  have e : cs.drop off = (cs.drop off).take l.length ++ cs.drop (off + l.length) := by
   rw [← List.drop_drop, List.take_append_drop]
  rw [e]
  refine h1.app (ih _ _ hl' (fun u hu' => hu u (List.mem_append_right _ hu')) ?_ fun f' hf' => hx f' (List.mem_cons_of_mem _ hf'))
  simp at hl ⊢
  omega
theorem xO {l : List TypeId} {cs : List Value} : ∀ (k i : Nat), (∀ j, i ≤ j → j < i + k → Cs P m w l ((cs.drop (j * l.length)).take l.length)) → cs.length = (i + k) * l.length → Cs P m w (bQ P l k) (cs.drop (i * l.length)) := by
 intro k
 induction k with
 | zero =>
  intro i _ hl
  rw [List.drop_eq_nil_of_le (by rw [hl]; simp)]
  exact ⟨rfl, fun j t v ht => by simp [bQ] at ht⟩
 | succ k ih =>
  intro i h hl
  have e : cs.drop (i * l.length) = (cs.drop (i * l.length)).take l.length ++ cs.drop ((i + 1) * l.length) := by
   rw [Nat.add_mul, Nat.one_mul, ← List.drop_drop, List.take_append_drop]
  rw [e, bQ]
  exact (h i (Nat.le_refl _) (by omega)).app (ih (i + 1) (fun j h1 h2 => h j (by omega) (by omega)) (by rw [hl]; congr 1; omega))
theorem eY {α : Type} (f : Nat → α) (n i : Nat) (x : α) (h : ((List.range n).map f)[i]? = some x) : i < n ∧ x = f i := by
 rw [List.getElem?_map] at h
 by_cases hi : i < n
 ·rw [List.getElem?_range hi] at h
  simp at h
  exact ⟨hi, h.symm⟩
 ·rw [List.getElem?_eq_none (by simp; omega)] at h
  simp at h
theorem kR {e : TypeId} {n : Nat} {ps : List PV} (hn : ps.length = n) (h0 : 0 < n) (h1 : ∀ p ∈ ps, p.one = true) (hl : leaf P e = true → n = 1) : (tJ (isAgg P e) ps).cells = ps := by
 unfold tJ isAgg
 cases hle : leaf P e with
 | false => rfl
 | true =>
  have := hl hle
  match ps, hn with
  | [p], _ =>
   have := h1 p (by simp)
   simp
   cases p <;> simp_all [PV.cells, PV.one]
  | [], hn => simp at hn; omega
  | _ :: _ :: _, hn => simp at hn; omega
theorem trod_array {fuel k : Nat} {t e : TypeId} {cs : List Value} {x : DataW H × List MemPlace} (ht : P.underlying t = some (.array k e)) (h : DataW.trod enc P w base spare held fuel t cs = some x) :
  ∃ (xs : List (DataW H × List MemPlace)) (n : Nat), fuel = n + 1 ∧ cs.length = P.cellsOf t ∧ xs.length = k ∧
   ∀ i, i < k → DataW.trod enc P w base spare held n e ((cs.drop (i * P.cellsOf e)).take (P.cellsOf e)) = xs[i]? := by
 cases fuel with
 | zero => simp [DataW.trod] at h
 | succ n =>
  unfold DataW.trod at h
  rw [ht] at h
  split at h <;> simp_all
  obtain ⟨hl, xs, hp, hd⟩ := h
  exact ⟨xs, by simpa using mapM_some_length hp, fun i hi => mapM_some_get hp i i (by simp [hi])⟩
theorem Af (hT : okT P m T = true) : ∀ (n : Nat) (t : TypeId) (cs : List Value) (x : DataW H × List MemPlace), DataW.trod enc P w base spare held n t cs = some x →
  ∀ (k : Nat) (ts : List TypeId), flat P k t = some ts → (∀ u ∈ ts, ∀ e, P.underlying u = some (.slice e) → e ∈ T) → Cs P m w ts cs := by
 intro n
 induction n with
 | zero => intro t cs x h; simp [DataW.trod] at h
 | succ n ih =>
  intro t cs x h k ts hk hu
  cases k with
  | zero => simp [flat] at hk
  | succ k =>
  have one : ∀ v p, cs = [v] → VI P m t p → DZ w (fun _ => False) p v → ts = [t] → Cs P m w ts cs := by
   intro v p hcs hp hr hts
   subst hcs; subst hts
   refine ⟨rfl, fun j t' v' ht hv => ?_⟩
   cases j with
   | zero => simp at ht hv; subst ht; subst hv; exact ⟨p, hp, hr⟩
   | succ j => simp at ht
  unfold flat at hk
  split at hk
  ·rename_i ht
   obtain ⟨b, hcs, _⟩ := DataW.trod_bool ht h
   exact one _ _ hcs (.bool t b ht) (.bool b) (by simpa using hk.symm)
  ·rename_i kk ht
   obtain ⟨i, hcs, _, hw⟩ := DataW.trod_int ht h
   exact one _ _ hcs (.int t kk i ht hw) (.int kk i) (by simpa using hk.symm)
  ·rename_i ht
   obtain ⟨s, hcs, _, hw⟩ := DataW.trod_string ht h
   exact one _ _ hcs (.str t s.data.toList ht (by simpa using hw)) (Am s) (by simpa using hk.symm)
  ·rename_i e ht
   have hts : ts = [t] := by simpa using hk.symm
   have heT : e ∈ T := hu t (by rw [hts]; simp) e ht
   have hok := List.all_eq_true.1 hT e heT
   split at hok
   case h_2 => cases hok
   rename_i es hes
   simp only [Bool.and_eq_true, decide_eq_true_eq, Bool.or_eq_true, beq_iff_eq] at hok
   obtain ⟨⟨⟨hsz, hpos⟩, hlf⟩, hall⟩ := hok
   have hue : ∀ u ∈ es, ∀ e', P.underlying u = some (.slice e') → e' ∈ T := by
    intro u hu' e' he'
    have := List.all_eq_true.1 hall u hu'
    simp only [he'] at this
    simpa using this
   rcases DataW.trod_slice ht h with ⟨hcs, _⟩ | ⟨a, len, cap, elems, rest, n', hn', hcs, _, hb, hl, hm, hlen, hel, _, _⟩
   ·exact one _ _ hcs (.sl t e es [] ht hes (Nat.zero_le _) (by simp) (by simp) (by simp)) (.sl0 es.length none 0) hts
   ·by_cases h0 : len = 0
    ·subst h0
     exact one _ _ hcs (.sl t e es [] ht hes (Nat.zero_le _) (by simp) (by simp) (by simp)) (.sl0 es.length (some a) cap) hts
    ·have hn0 : n' = n := by omega
     subst hn0
     have each : ∀ i, ∃ cs', i < len → (w.cells? base (a.add (i * P.cellsOf e)) (P.cellsOf e) = some cs' ∧ Cs P m w es cs') := by
      intro i
      by_cases hi : i < len
      ·have := hel i hi
       rw [List.getElem?_eq_getElem (by omega), Option.bind_eq_some_iff] at this
       obtain ⟨cs', h1, h2⟩ := this
       exact ⟨cs', fun _ => ⟨h1, ih e cs' _ h2 m es hes hue⟩⟩
      ·exact ⟨[], fun h => absurd h hi⟩
     let C : Nat → List Value := fun i => Classical.choose (each i)
     have hC : ∀ i, i < len → (w.cells? base (a.add (i * P.cellsOf e)) (P.cellsOf e) = some (C i) ∧ Cs P m w es (C i)) := fun i => Classical.choose_spec (each i)
     have eachp : ∀ i, ∃ ps : List PV, i < len → (ps.length = es.length ∧ (∀ (j : Nat) (t : TypeId) (p : PV), es[j]? = some t → ps[j]? = some p → VI P m t p) ∧
       ∀ (j : Nat) (p : PV) (v : Value), ps[j]? = some p → (C i)[j]? = some v → DZ w (fun _ => False) p v) := by
      intro i
      by_cases hi : i < len
      ·obtain ⟨ps, hp⟩ := (hC i hi).2.pv
       exact ⟨ps, fun _ => hp⟩
      ·exact ⟨[], fun h => absurd h hi⟩
     let S : Nat → List PV := fun i => Classical.choose (eachp i)
     have hS : ∀ i, i < len → ((S i).length = es.length ∧ (∀ (j : Nat) (t : TypeId) (p : PV), es[j]? = some t → (S i)[j]? = some p → VI P m t p) ∧
       ∀ (j : Nat) (p : PV) (v : Value), (S i)[j]? = some p → (C i)[j]? = some v → DZ w (fun _ => False) p v) := fun i => Classical.choose_spec (eachp i)
     have hone : ∀ i, i < len → ∀ p ∈ S i, p.one = true := by
      intro i hi p hp
      obtain ⟨j, hj⟩ := List.getElem?_of_mem hp
      have hjl : j < es.length := by
       have := (List.getElem?_eq_some_iff.1 hj).1
       rw [(hS i hi).1] at this
       exact this
      exact ((hS i hi).2.1 j es[j] p (List.getElem?_eq_getElem hjl) hj).one
     have hcl : ∀ i, i < len → (tJ (isAgg P e) (S i)).cells = S i := fun i hi => kR (hS i hi).1 hpos (hone i hi) (fun h => by rcases hlf with h' | h'; rw [h] at h'; cases h'; exact h')
     have hsp : a.spot = none := by
      have hlt : 0 < len := by omega
      have h1 := (World.cells?_some (hC 0 hlt).1).2.2 0 (by omega)
      have h2 : 0 < (C 0).length := by rw [(hC 0 hlt).2.1]; omega
      rw [List.getElem?_eq_getElem h2] at h1
      have e0 : (a.add (0 * P.cellsOf e)).add 0 = a := by simp [Addr.add]
      rw [e0] at h1
      unfold World.cell? at h1
      cases hs : a.spot with
      | none => rfl
      | some x =>
       rw [hs] at h1
       split at h1 <;> simp at h1
     obtain ⟨b, o, sp⟩ := a
     simp only at hsp
     subst hsp
     have hlx : ((List.range len).map fun i => tJ (isAgg P e) (S i)).length = len := by simp
     have hmem : ∀ x ∈ (List.range len).map (fun i => tJ (isAgg P e) (S i)), ∃ i, i < len ∧ x = tJ (isAgg P e) (S i) := by
      intro x hx
      obtain ⟨i, hi, rfl⟩ := List.mem_map.1 hx
      exact ⟨i, by simpa using hi, rfl⟩
     have hrel := DZ.sl (w := w) (O := fun _ => False) es.length ((List.range len).map fun i => tJ (isAgg P e) (S i)) b o cap (fun i j => (C i).getD j (.bool false)) (fun h => h)
      (fun h => by rw [h] at hlx; simp at hlx; omega) (by rw [hlx]; exact hl) hpos
      (fun x hx => by
       obtain ⟨i, hi, rfl⟩ := hmem x hx
       rw [hcl i hi]
       exact ⟨(hS i hi).1, hone i hi⟩)
      (fun i x j p hx hp => by
       obtain ⟨hi, rfl⟩ := eY _ _ _ _ hx
       rw [hcl i hi] at hp
       have hj : j < es.length := by have := (List.getElem?_eq_some_iff.1 hp).1; rw [(hS i hi).1] at this; exact this
       have h1 := (World.cells?_some (hC i hi).1).2.2 j (by omega)
       have h2 : j < (C i).length := by rw [(hC i hi).2.1]; exact hj
       rw [List.getElem?_eq_getElem h2] at h1
       rw [List.getD_eq_getElem?_getD, List.getElem?_eq_getElem h2]
       simp only [Option.getD_some]
       rw [← h1, ← hsz]
       congr 1
       unfold Addr.add
       by_cases hi0 : i * es.length = 0
       ·rw [hi0]
        by_cases hj0 : j = 0
        ·subst hj0; first | (simp; done) | simp [hi0]
        ·rw [if_neg hj0]; simp
       ·by_cases hj0 : j = 0
        ·subst hj0; first | (simp; done) | simp [hi0]
        ·rw [if_neg hj0, if_neg hi0]; simp; omega)
      (fun i x j p hx hp => by
       obtain ⟨hi, rfl⟩ := eY _ _ _ _ hx
       rw [hcl i hi] at hp
       have hj : j < es.length := by have := (List.getElem?_eq_some_iff.1 hp).1; rw [(hS i hi).1] at this; exact this
       have h2 : j < (C i).length := by rw [(hC i hi).2.1]; exact hj
       rw [List.getD_eq_getElem?_getD, List.getElem?_eq_getElem h2]
       exact (hS i hi).2.2 j p _ hp (List.getElem?_eq_getElem h2))
     rw [hlx] at hrel
     refine one _ _ hcs (.sl t e es _ ht hes (by rw [hlx]; omega) ?_ ?_ ?_) hrel hts
     ·intro x hx
      obtain ⟨i, hi, rfl⟩ := hmem x hx
      rw [hcl i hi]; exact (hS i hi).1
     ·intro x hx
      obtain ⟨i, hi, rfl⟩ := hmem x hx
      rw [hcl i hi]
     ·intro x hx j u p hu' hp
      obtain ⟨i, hi, rfl⟩ := hmem x hx
      rw [hcl i hi] at hp
      exact (hS i hi).2.1 j u p hu' hp
  ·rename_i fs ht
   obtain ⟨xs, n', hn', _, hlen, hxl, hf⟩ := DataW.trod_struct ht h
   have hn0 : n' = n := by omega
   subst hn0
   rw [Option.bind_eq_some_iff] at hk
   obtain ⟨l, hl, hk⟩ := hk
   split at hk
   case isFalse => cases hk
   rename_i hlc
   cases hk
   have hg : ∀ t ts cs x, flat P k t = some ts → (∀ u ∈ ts, ∀ e, P.underlying u = some (.slice e) → e ∈ T) → DataW.trod enc P w base spare held n' t cs = some x → Cs P m w ts cs := fun t ts cs x h1 h2 h3 => ih t cs x h3 k ts h1 h2
   have := xN (cs := cs) hg fs.toList 0 ts hl hu (by simp; omega) (by
    intro f hf'
    obtain ⟨i, hi⟩ := List.getElem?_of_mem hf'
    have hi' : fs[i]? = some f := by simpa using hi
    have h1 := hf i f hi'
    have h2 : i < xs.length := by rw [hxl]; exact (Array.getElem?_eq_some_iff.1 hi').1
    rw [List.getElem?_eq_getElem h2] at h1
    exact ⟨_, h1⟩)
   simpa using this
  ·rename_i k' e ht
   rw [Option.bind_eq_some_iff] at hk
   obtain ⟨l, hl, hk⟩ := hk
   split at hk
   case isFalse => cases hk
   rename_i hlc
   cases hk
   cases hz : k' with
   | zero =>
    obtain ⟨xs, n', hn', hlen, hxl, hf⟩ := trod_array ht h
    subst hz
    refine ⟨?_, fun j t v ht => by simp [bQ] at ht⟩
    rw [hlen, ← hlc.2]; simp [bQ]
   | succ k0 =>
    obtain ⟨xs, n', hn', hlen, hxl, hf⟩ := trod_array ht h
    have hn0 : n' = n := by omega
    subst hn0
    have := xO (P := P) (m := m) (w := w) (l := l) (cs := cs) k' 0 (fun j _ hj => by
     have h1 := hf j (by omega)
     rw [List.getElem?_eq_getElem (by omega)] at h1
     rw [hlc.1]
     exact ih e _ _ h1 k l hl fun u hu' e' he' => hu u (by rw [hz]; exact List.mem_append_left _ hu') e' he') (by rw [hlen, ← hlc.2]; simp)
    subst hz
    simpa using this
  ·cases hk
theorem vG {r : Reach} {b0 : Nat} {t : TypeId} {fs : Array Field} {ts : List TypeId} {v : Value} {d : DataW H} {ps : List MemPlace} (hT : okT P m T = true) (ht : P.underlying t = some (.struct fs)) (hl : flat P m t = some ts)
  (hs : ∀ u ∈ ts, ∀ e, P.underlying u = some (.slice e) → e ∈ T)
  (hval : Value.okWide P w r b0 t v) (hd : DataW.Trod enc P w base spare held t v d ps) :
  ∃ cs, cs.length = ts.length ∧ (∀ (j : Nat) (u : TypeId) (p : PV), ts[j]? = some u → cs[j]? = some p → VI P m u p) ∧ DZ w (fun _ => False) (.agg cs) v := by
 obtain ⟨n, h⟩ := hd
 have hc := Af hT n t _ _ h m ts hl hs
 obtain ⟨vs, rfl, hsz⟩ := okWide_struct ht hval
 have hv : (Value.agg vs).cells.toList = vs.toList := rfl
 rw [hv] at hc
 obtain ⟨ps, h1, h2, h3⟩ := hc.pv
 refine ⟨ps, h1, h2, ?_⟩
 have := DZ.agg (w := w) (O := fun _ => False) ps vs.toList (by rw [h1, hc.1]) (fun p hp => by
  obtain ⟨j, hj⟩ := List.getElem?_of_mem hp
  have hjl : j < ts.length := by
   have := (List.getElem?_eq_some_iff.1 hj).1
   rw [h1] at this
   exact this
  exact (h2 j ts[j] p (List.getElem?_eq_getElem hjl) hj).one) h3
 simpa using this
end
theorem iK {α : Type} {e : α → PV} {B : α → Prop} : ∀ xs : List PV, (∀ x ∈ xs, ∃ a, x = e a ∧ B a) → ∃ l : List α, xs = l.map e ∧ ∀ a ∈ l, B a
 | [], _ => ⟨[], rfl, by simp⟩
 | x :: xs, h => by
  obtain ⟨a, rfl, ha⟩ := h x List.mem_cons_self
  obtain ⟨l, rfl, hl⟩ := iK xs fun y hy => h y (List.mem_cons_of_mem _ hy)
  exact ⟨a :: l, rfl, fun b hb => by rcases List.mem_cons.1 hb with rfl | hb; exact ha; exact hl b hb⟩
section
variable {P : Program} {m : Nat} {t : TypeId} {p : PV}
theorem VI.str_inv (h : VI P m t p) (ht : P.underlying t = some .string) : ∃ s : List UInt8, p = .str s ∧ s.length ≤ maxLen := by
 cases h with
 | str _ s h hs => exact ⟨s, rfl, hs⟩
 | int _ k n h => rw [ht] at h; cases h
 | bool _ b h => rw [ht] at h; cases h
 | sl _ e ts xs h => rw [ht] at h; cases h
theorem VI.bool_inv (h : VI P m t p) (ht : P.underlying t = some .bool) : ∃ b : Bool, p = .bool b ∧ True := by
 cases h with
 | bool _ b h => exact ⟨b, rfl, trivial⟩
 | int _ k n h => rw [ht] at h; cases h
 | str _ s h => rw [ht] at h; cases h
 | sl _ e ts xs h => rw [ht] at h; cases h
theorem VI.int_inv {k : IntKind} (h : VI P m t p) (ht : P.underlying t = some (.int k)) : ∃ n : Int, p = .int k n ∧ (k.min ≤ n ∧ n ≤ k.max) := by
 cases h with
 | int _ k' n h hw =>
  rw [ht] at h
  cases h
  refine ⟨n, rfl, ?_⟩
  simpa [Lit.wf] using hw
 | bool _ b h => rw [ht] at h; cases h
 | str _ s h => rw [ht] at h; cases h
 | sl _ e ts xs h => rw [ht] at h; cases h
theorem VI.sl_inv {e : TypeId} {ts : List TypeId} (h : VI P m t p) (ht : P.underlying t = some (.slice e)) (hf : flat P m e = some ts) :
  ∃ xs : List PV, p = .sl ts.length xs ∧ xs.length ≤ maxLen ∧ ∀ x ∈ xs, ∃ cs : List PV, x = tJ (isAgg P e) cs ∧ cs.length = ts.length ∧ ∀ (j : Nat) (u : TypeId) (q : PV), ts[j]? = some u → cs[j]? = some q → VI P m u q := by
 cases h with
 | sl _ e' ts' xs h hf' hl ha hb hc =>
  rw [ht] at h
  cases h
  rw [hf] at hf'
  cases hf'
  exact ⟨xs, rfl, hl, fun x hx => ⟨x.cells, hb x hx, ha x hx, hc x hx⟩⟩
 | int _ k n h => rw [ht] at h; cases h
 | bool _ b h => rw [ht] at h; cases h
 | str _ s h => rw [ht] at h; cases h
end
theorem GX {α : Type} {l : List α} {n : Nat} (h : l.length = n + 1) : ∃ a l', l = a :: l' ∧ l'.length = n := by
 cases l with
 | nil => simp at h
 | cons a l' => exact ⟨a, l', rfl, by simpa using h⟩
theorem iI {α : Type} {l : List α} (h : l.length = 0) : l = [] := List.length_eq_zero_iff.1 h
end Go.Vd
end
