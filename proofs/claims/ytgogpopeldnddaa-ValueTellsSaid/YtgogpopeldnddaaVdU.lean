/- Regions whose operations may run in any order that their edges allow. -/
import Derived.Test.YtgogpopeldnddaaVdT
set_option linter.unusedVariables false
set_option linter.unusedSimpArgs false
namespace Go.Vd
open Go.RowKit

def Opd.slot : Opd → List Nat
  | .t n => [n]
  | .c _ => []
def Opd.plain : Opd → Bool
  | .t _ => true
  | .c p => p.free
def gslot : Option (Nat × Bool) → List Nat
  | some (g, _) => [g]
  | none => []
def Ins.reads (io : Ins) : List Nat := io.op.opds.flatMap Opd.slot ++ gslot io.guard

/-- Operations that make at most new rows, one by one. -/
inductive Steps0 (P : Program) : List Ins → St → St → Prop
  | nil {st : St} : Steps0 P [] st st
  | run {io : Ins} {l : List Ins} {st st2 : St} (p : PV) (N : Rows) (hg : gok st.s io.guard = some true) (h : PurS P io.op st.s st.r p N) (hn : ∀ t row, N t = some row → st.r t = none)
      (k : Steps0 P l (St.put ⟨st.s, mrg N st.r⟩ io.dst p) st2) : Steps0 P (io :: l) st st2
  | skip {io : Ins} {l : List Ins} {st st2 : St} (hg : gok st.s io.guard = some false) (k : Steps0 P l (st.put io.dst .undef) st2) : Steps0 P (io :: l) st st2

def noclash (io j : Ins) : Bool :=
  match j.dst with
  | none => true
  | some d => !io.reads.contains d
def sepd (io j : Ins) : Bool :=
  match io.dst, j.dst with
  | some a, some b => !(Nat.beq a b)
  | _, _ => true
def scheck : List Ins → Bool
  | [] => true
  | io :: r => noclash io io && r.all (fun j => noclash io j && sepd io j) && scheck r

def Fact (P : Program) (fin : St) (io : Ins) (p : PV) (N : Rows) : Prop :=
  (gok fin.s io.guard = some true ∧ PurS P io.op fin.s fin.r p N) ∨ (gok fin.s io.guard = some false ∧ p = .undef ∧ N = noRows)

theorem ev_of_reads {s s' : Slots} {x : Opd} (h : ∀ d ∈ x.slot, s' d = s d) : x.ev s' = x.ev s := by
  cases x with
  | t n => exact h n (by simp [Opd.slot])
  | c p => rfl
theorem opds_of_reads {s s' : Slots} {io : Ins} (h : ∀ d ∈ io.reads, s' d = s d) : ∀ x ∈ io.op.opds, x.ev s' = x.ev s :=
  fun x hx => ev_of_reads fun d hd => h d (List.mem_append_left _ (List.mem_flatMap.2 ⟨x, hx, hd⟩))
theorem gok_of_reads {s s' : Slots} {io : Ins} (h : ∀ d ∈ io.reads, s' d = s d) : gok s' io.guard = gok s io.guard := by
  have : ∀ d ∈ gslot io.guard, s' d = s d := fun d hd => h d (List.mem_append_right _ hd)
  cases hg : io.guard with
  | none => rfl
  | some gb =>
    obtain ⟨g, b⟩ := gb
    rw [hg] at this
    simp only [gok, this g (by simp [gslot])]

theorem noclash_spec {io j : Ins} (h : noclash io j = true) {d : Nat} (hd : j.dst = some d) : d ∉ io.reads := by
  intro hm
  simp [noclash, hd] at h
  exact h hm
theorem sepd_spec {io j : Ins} (h : sepd io j = true) {d : Nat} (hd : io.dst = some d) : j.dst ≠ some d := by
  intro hj
  simp [sepd, hd, hj] at h

theorem put_s {st : St} {dst : Option Nat} {p : PV} {d : Nat} (h : dst ≠ some d) : (st.put dst p).s d = st.s d := by
  cases dst with
  | none => rfl
  | some e => exact upd_ne _ _ fun he => h (by rw [he])
theorem put_s_same {st : St} {p : PV} {d : Nat} : (st.put (some d) p).s d = some p := upd_same _ _ _
theorem mrg_some {N R : Rows} {t : Nat} {row : Row} (h : N t = some row) : mrg N R t = some row := by simp [mrg, h]
theorem mrg_none {N R : Rows} {t : Nat} (h : N t = none) : mrg N R t = R t := by simp [mrg, h]

structure Trace (P : Program) (l : List Ins) (st fin : St) (tr : List (PV × Rows)) : Prop where
  len : tr.length = l.length
  fact : ∀ (k : Nat) (io : Ins) (p : PV) (N : Rows), l[k]? = some io → tr[k]? = some (p, N) → Fact P fin io p N
  dst : ∀ (k : Nat) (io : Ins) (p : PV) (N : Rows) (d : Nat), l[k]? = some io → tr[k]? = some (p, N) → io.dst = some d → fin.s d = some p
  new : ∀ (k : Nat) (p : PV) (N : Rows) (t : Nat) (row : Row), tr[k]? = some (p, N) → N t = some row → fin.r t = some row ∧ st.r t = none
  sold : ∀ d, (∀ io ∈ l, io.dst ≠ some d) → fin.s d = st.s d
  grow : ∀ t row, st.r t = some row → fin.r t = some row
  rold : ∀ t, (∀ (k : Nat) (p : PV) (N : Rows), tr[k]? = some (p, N) → N t = none) → fin.r t = st.r t
  dis : ∀ (j k : Nat) (p : PV) (N : Rows) (p' : PV) (N' : Rows), j < k → tr[j]? = some (p, N) → tr[k]? = some (p', N') → ∀ t row, N t = some row → N' t = none

theorem Trace.cons {P : Program} {io : Ins} {l : List Ins} {st fin : St} {tr : List (PV × Rows)} {p : PV} {N : Rows} (hc : scheck (io :: l) = true) (h : Trace P l (St.put ⟨st.s, mrg N st.r⟩ io.dst p) fin tr)
    (hn : ∀ t row, N t = some row → st.r t = none) (hf : (gok st.s io.guard = some true ∧ PurS P io.op st.s st.r p N) ∨ (gok st.s io.guard = some false ∧ p = .undef ∧ N = noRows)) : Trace P (io :: l) st fin ((p, N) :: tr) := by
  simp only [scheck, Bool.and_eq_true, List.all_eq_true] at hc
  obtain ⟨⟨c1, c2⟩, c3⟩ := hc
  have hrd : ∀ d ∈ io.reads, fin.s d = st.s d := by
    intro d hd
    rw [h.sold d fun j hj e => noclash_spec (c2 j hj).1 e hd, put_s]
    exact fun e => noclash_spec c1 e hd
  have hgr : ∀ t row, st.r t = some row → fin.r t = some row := by
    intro t row ht
    refine h.grow t row ?_
    rw [St.put_r]
    cases hN : N t with
    | none => simpa [mrg_none hN] using ht
    | some r => rw [hn t r hN] at ht; cases ht
  refine ⟨by simp [h.len], fun k jo q M hk ht => ?_, fun k jo q M d hk ht hd => ?_, fun k q M t row ht hM => ?_, fun d hd => ?_, hgr, fun t ht => ?_, fun j k q M q' M' hjk hj hk t row hM => ?_⟩
  · cases k with
    | zero =>
      simp only [List.getElem?_cons_zero, Option.some.injEq, Prod.mk.injEq] at hk ht
      obtain ⟨rfl, rfl⟩ := ht
      subst hk
      rcases hf with ⟨h1, h2⟩ | ⟨h1, h2, h3⟩
      · exact .inl ⟨(gok_of_reads hrd).trans h1, h2.grow (opds_of_reads hrd) hgr⟩
      · exact .inr ⟨(gok_of_reads hrd).trans h1, h2, h3⟩
    | succ k => exact h.fact k jo q M (by simpa using hk) (by simpa using ht)
  · cases k with
    | zero =>
      simp only [List.getElem?_cons_zero, Option.some.injEq, Prod.mk.injEq] at hk ht
      obtain ⟨rfl, rfl⟩ := ht
      subst hk
      rw [h.sold d fun j hj => sepd_spec (c2 j hj).2 hd, hd]
      exact put_s_same
    | succ k => exact h.dst k jo q M d (by simpa using hk) (by simpa using ht) hd
  · cases k with
    | zero =>
      simp only [List.getElem?_cons_zero, Option.some.injEq, Prod.mk.injEq] at ht
      obtain ⟨rfl, rfl⟩ := ht
      refine ⟨h.grow t row ?_, hn t row hM⟩
      rw [St.put_r]
      exact mrg_some hM
    | succ k =>
      obtain ⟨h1, h2⟩ := h.new k q M t row (by simpa using ht) hM
      refine ⟨h1, ?_⟩
      rw [St.put_r] at h2
      have h2 : mrg N st.r t = none := h2
      cases hN : N t with
      | none => simpa [mrg_none hN] using h2
      | some r => rw [mrg_some hN] at h2; cases h2
  · rw [h.sold d fun j hj => hd j (List.mem_cons_of_mem _ hj)]
    exact put_s (hd io List.mem_cons_self)
  · have h1 := h.rold t fun k q M hk => ht (k + 1) q M (by simpa using hk)
    rw [h1, St.put_r]
    exact mrg_none (ht 0 p N rfl)
  · cases k with
    | zero => omega
    | succ k =>
      cases j with
      | zero =>
        simp only [List.getElem?_cons_zero, Option.some.injEq, Prod.mk.injEq] at hj
        obtain ⟨rfl, rfl⟩ := hj
        cases hM' : M' t with
        | none => rfl
        | some r =>
          have := (h.new k q' M' t r (by simpa using hk) hM').2
          rw [St.put_r] at this
          have this : mrg N st.r t = none := this
          rw [mrg_some hM] at this
          cases this
      | succ j => exact h.dis j k q M q' M' (by omega) (by simpa using hj) (by simpa using hk) t row hM

theorem Steps0.trace {P : Program} {l : List Ins} {st fin : St} (h : Steps0 P l st fin) (hc : scheck l = true) : ∃ tr, Trace P l st fin tr := by
  induction h with
  | nil => exact ⟨[], rfl, by simp, by simp, by simp, fun _ _ => rfl, fun _ _ h => h, fun _ _ => rfl, by simp⟩
  | run p N hg hp hn k ih =>
    have hc' := hc
    simp only [scheck, Bool.and_eq_true] at hc'
    obtain ⟨tr, ht⟩ := ih hc'.2
    exact ⟨_, ht.cons hc hn (.inl ⟨hg, hp⟩)⟩
  | skip hg k ih =>
    have hc' := hc
    simp only [scheck, Bool.and_eq_true] at hc'
    obtain ⟨tr, ht⟩ := ih hc'.2
    exact ⟨_, Trace.cons (N := noRows) hc ht (fun t row h => by simp [noRows] at h) (.inr ⟨hg, rfl, rfl⟩)⟩

/-- A state between: those of S have run. -/
structure Cur (l : List Ins) (tr : List (PV × Rows)) (st : St) (S : Nat → Bool) (cur : St) : Prop where
  s1 : ∀ (k : Nat) (io : Ins) (p : PV) (N : Rows) (d : Nat), l[k]? = some io → tr[k]? = some (p, N) → S k = true → io.dst = some d → cur.s d = some p
  s2 : ∀ d, (∀ (k : Nat) (io : Ins), l[k]? = some io → S k = true → io.dst ≠ some d) → cur.s d = st.s d
  r1 : ∀ (k : Nat) (p : PV) (N : Rows) (t : Nat) (row : Row), tr[k]? = some (p, N) → S k = true → N t = some row → cur.r t = some row
  r2 : ∀ t, (∀ (k : Nat) (p : PV) (N : Rows), tr[k]? = some (p, N) → S k = true → N t = none) → cur.r t = st.r t

section
variable {P : Program} {l : List Ins} {tr : List (PV × Rows)} {st fin cur : St} {S : Nat → Bool}

theorem Trace.get (h : Trace P l st fin tr) {k : Nat} {io : Ins} (hk : l[k]? = some io) : ∃ p N, tr[k]? = some (p, N) := by
  obtain ⟨hlt, _⟩ := List.getElem?_eq_some_iff.1 hk
  have hlt' : k < tr.length := by rw [h.len]; exact hlt
  exact ⟨(tr[k]'hlt').1, (tr[k]'hlt').2, List.getElem?_eq_getElem hlt'⟩

theorem Cur.sub (h : Cur l tr st S cur) (ht : Trace P l st fin tr) {t : Nat} {row : Row} (hr : cur.r t = some row) : fin.r t = some row := by
  by_cases he : ∃ (k : Nat) (p : PV) (N : Rows) (r : Row), tr[k]? = some (p, N) ∧ S k = true ∧ N t = some r
  · obtain ⟨k, p, N, r, h1, h2, h3⟩ := he
    have := h.r1 k p N t r h1 h2 h3
    rw [hr] at this
    cases this
    exact (ht.new k p N t row h1 h3).1
  · rw [h.r2 t fun k p N h1 h2 => by
      cases hN : N t with
      | none => rfl
      | some r => exact absurd ⟨k, p, N, r, h1, h2, hN⟩ he] at hr
    exact ht.grow t row hr

theorem Cur.slot (h : Cur l tr st S cur) (ht : Trace P l st fin tr) {d : Nat} (hd : ∀ (k : Nat) (io : Ins), l[k]? = some io → io.dst = some d → S k = true) : cur.s d = fin.s d := by
  by_cases he : ∃ (k : Nat) (io : Ins), l[k]? = some io ∧ io.dst = some d
  · obtain ⟨k, io, h1, h2⟩ := he
    obtain ⟨p, N, h3⟩ := ht.get h1
    rw [h.s1 k io p N d h1 h3 (hd k io h1 h2) h2, ht.dst k io p N d h1 h3 h2]
  · rw [h.s2 d fun k io h1 _ h2 => he ⟨k, io, h1, h2⟩, ht.sold d fun io hio h2 => ?_]
    obtain ⟨k, hk⟩ := List.getElem?_of_mem hio
    exact he ⟨k, io, hk, h2⟩

theorem Cur.at_end (h : Cur l tr st S cur) (ht : Trace P l st fin tr) (hS : ∀ k, k < l.length → S k = true) : cur = fin := by
  have hs : cur.s = fin.s := funext fun d => h.slot ht fun k io hk _ => hS k (List.getElem?_eq_some_iff.1 hk).1
  have hr : cur.r = fin.r := by
    funext t
    cases hf : cur.r t with
    | some row => exact (h.sub ht hf).symm
    | none =>
      symm
      have hnone : ∀ (k : Nat) (p : PV) (N : Rows), tr[k]? = some (p, N) → N t = none := by
        intro k p N hk
        have hlt := (List.getElem?_eq_some_iff.1 hk).1
        rw [ht.len] at hlt
        cases hN : N t with
        | none => rfl
        | some r => rw [h.r1 k p N t r hk (hS k hlt) hN] at hf; cases hf
      rw [ht.rold t hnone, ← h.r2 t fun k p N hk _ => hnone k p N hk, hf]
  cases cur; cases fin; simp only at hs hr; rw [hs, hr]

theorem Cur.step (h : Cur l tr st S cur) (ht : Trace P l st fin tr) (hc : scheck l = true) {i : Nat} {io : Ins} {p : PV} {N : Rows} (hi : l[i]? = some io) (hti : tr[i]? = some (p, N)) (hSi : S i = false) {S' : Nat → Bool}
    (hS' : ∀ k, S' k = true ↔ k = i ∨ S k = true) (hsep : ∀ (k : Nat) (jo : Ins) (d : Nat), l[k]? = some jo → k ≠ i → jo.dst = some d → io.dst ≠ some d) : (∀ t row, N t = some row → cur.r t = none) ∧ Cur l tr st S' (St.put ⟨cur.s, mrg N cur.r⟩ io.dst p) := by
  have hdis : ∀ (k : Nat) (q : PV) (M : Rows), tr[k]? = some (q, M) → k ≠ i → ∀ t row, N t = some row → M t = none := by
    intro k q M hk hne t row hN
    rcases Nat.lt_or_gt_of_ne hne with hlt | hlt
    · cases hM : M t with
      | none => rfl
      | some r => rw [ht.dis k i q M p N hlt hk hti t r hM] at hN; cases hN
    · exact ht.dis i k p N q M hlt hti hk t row hN
  have hfresh : ∀ t row, N t = some row → cur.r t = none := by
    intro t row hN
    rw [h.r2 t fun k q M hk hSk => hdis k q M hk (fun e => by rw [e, hSi] at hSk; cases hSk) t row hN]
    exact (ht.new i p N t row hti hN).2
  refine ⟨hfresh, fun k jo q M d hk htk hSk hd => ?_, fun d hd => ?_, fun k q M t row htk hSk hM => ?_, fun t hN => ?_⟩
  · by_cases hki : k = i
    · subst hki
      rw [hi] at hk; cases hk
      rw [hti] at htk; cases htk
      rw [hd]
      exact put_s_same
    · rw [put_s (hsep k jo d hk hki hd)]
      exact h.s1 k jo q M d hk htk (((hS' k).1 hSk).resolve_left hki) hd
  · rw [put_s (hd i io hi ((hS' i).2 (.inl rfl)))]
    exact h.s2 d fun k jo hk hSk => hd k jo hk ((hS' k).2 (.inr hSk))
  · rw [St.put_r]
    by_cases hki : k = i
    · subst hki
      rw [hti] at htk; cases htk
      exact mrg_some hM
    · show mrg N cur.r t = some row
      rw [mrg_none]
      · exact h.r1 k q M t row htk (((hS' k).1 hSk).resolve_left hki) hM
      · cases hN : N t with
        | none => rfl
        | some r => rw [hdis k q M htk hki t r hN] at hM; cases hM
  · rw [St.put_r]
    show mrg N cur.r t = st.r t
    rw [mrg_none (hN i p N hti ((hS' i).2 (.inl rfl)))]
    exact h.r2 t fun k q M hk hSk => hN k q M hk ((hS' k).2 (.inr hSk))
end

theorem Rel0.tk {w : World} {O : Nat → Prop} {p : PV} {v : Value} (h : Rel0 w O p v) (f : Nat → Bool) : p.tk f = true := by
  have key : ∀ {cs : List PV} {vs : List Value}, vs.length = cs.length → (∀ (j : Nat) (p : PV) (v : Value), cs[j]? = some p → vs[j]? = some v → p.tk f = true) → PV.tks f cs = true := by
    intro cs vs hl h
    refine PV.tks_of fun p hp => ?_
    obtain ⟨j, hj⟩ := List.getElem?_of_mem hp
    have hlt := (List.getElem?_eq_some_iff.1 hj).1
    exact h j p (vs[j]'(by omega)) hj (List.getElem?_eq_getElem (by omega))
  induction h with
  | clo g caps vs hl h ih => simp only [PV.tk]; exact key hl ih
  | agg cs vs hl hs h ih => simp only [PV.tk]; exact key hl ih
  | tup cs vs hl h ih => simp only [PV.tk]; exact key hl ih
  | _ => rfl

theorem Rel.tk {w : World} {O : Nat → Prop} {μ : Mu} {R : Rows} {p : PV} {v : Value} (h : Rel w O μ R p v) : p.tk (fun t => (R t).isSome) = true := by
  have key : ∀ {cs : List PV} {vs : List Value}, vs.length = cs.length → (∀ (j : Nat) (p : PV) (v : Value), cs[j]? = some p → vs[j]? = some v → p.tk (fun t => (R t).isSome) = true) → PV.tks (fun t => (R t).isSome) cs = true := by
    intro cs vs hl h
    refine PV.tks_of fun p hp => ?_
    obtain ⟨j, hj⟩ := List.getElem?_of_mem hp
    have hlt := (List.getElem?_eq_some_iff.1 hj).1
    exact h j p (vs[j]'(by omega)) hj (List.getElem?_eq_getElem (by omega))
  induction h with
  | base p v h => exact h.tk _
  | slr t lo n c row l hr hm hn hc hroom => simp [PV.tk, hr]
  | slr0 t lo row A hr hn => simp [PV.tk, hr]
  | ptr t i off row l hr hm hi ho => simp [PV.tk, hr]
  | clo g caps vs hl h ih => simp only [PV.tk]; exact key hl ih
  | agg cs vs hl hs h ih => simp only [PV.tk]; exact key hl ih
  | tup cs vs hl h ih => simp only [PV.tk]; exact key hl ih

theorem PV.tk_free {p : PV} (h : p.free = true) (f : Nat → Bool) : p.tk f = true := PV.tk_mono h h fun _ h1 _ => by cases h1

theorem scheck_sep : ∀ {l : List Ins}, scheck l = true → ∀ (k i : Nat) (jo io : Ins) (d : Nat), l[k]? = some jo → l[i]? = some io → k ≠ i → jo.dst = some d → io.dst ≠ some d
  | [], _, k, i, jo, io, d, hk, _, _, _ => by simp at hk
  | x :: r, hc, k, i, jo, io, d, hk, hi, hne, hd => by
    simp only [scheck, Bool.and_eq_true, List.all_eq_true] at hc
    obtain ⟨⟨_, c2⟩, c3⟩ := hc
    cases k with
    | zero =>
      cases i with
      | zero => exact absurd rfl hne
      | succ i =>
        simp only [List.getElem?_cons_zero, Option.some.injEq, List.getElem?_cons_succ] at hk hi
        subst hk
        exact sepd_spec (c2 io (List.mem_of_getElem? hi)).2 hd
    | succ k =>
      cases i with
      | zero =>
        simp only [List.getElem?_cons_zero, Option.some.injEq, List.getElem?_cons_succ] at hk hi
        subst hi
        intro e
        exact sepd_spec (c2 jo (List.mem_of_getElem? hk)).2 e hd
      | succ i => exact scheck_sep c3 k i jo io d (by simpa using hk) (by simpa using hi) (by omega) hd

end Go.Vd
