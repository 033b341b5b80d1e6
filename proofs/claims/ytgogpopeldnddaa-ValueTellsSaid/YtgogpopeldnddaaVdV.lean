/- Regions in any order: the machine's side. -/
import Derived.Test.YtgogpopeldnddaaVdU
set_option linter.unusedVariables false
set_option linter.unusedSimpArgs false
namespace Go.Vd
open Go.RowKit

def dirs (o : Oper) : List Nat := (o.after.toList.filter fun e => Region.binds .any e).map (·.on)
def dirsAt (ops : Array Oper) (k : Nat) : List Nat := match ops[k]? with
  | some o => dirs o
  | none => []
def maskOf (acc : List Nat) (ds : List Nat) : Nat := ds.foldl (fun m j => m ||| (1 <<< j) ||| acc.getD j 0) 0
def masks (l : List Oper) : List Nat := l.foldl (fun acc o => acc ++ [maskOf acc (dirs o)]) []
def bitAt (ms : List Nat) (k x : Nat) : Bool := (ms.getD k 0).testBit x

/-- What is looked at in a region's text. -/
structure DW (ops : Array Oper) (all : List Ins) (m : Nat) (ms : List Nat) : Prop where
  low : ∀ k j, j ∈ dirsAt ops k → j < k
  clo : ∀ k x, k < ops.size → x < ops.size → bitAt ms k x = true → x ∈ dirsAt ops k ∨ ∃ j ∈ dirsAt ops k, bitAt ms j x = true
  sc : scheck (all.take m) = true
  con : ∀ io ∈ all.take m, ∀ x ∈ io.op.opds, x.plain = true
  dep : ∀ i k io jo d, i < m → k < m → all[i]? = some io → all[k]? = some jo → jo.dst = some d → d ∈ io.reads → bitAt ms i k = true
  suf : ∀ i j, m ≤ i → i < ops.size → j < i → bitAt ms i j = true

def depAt (all : List Ins) (ms : List Nat) (i k : Nat) : Bool :=
  match all[i]?, all[k]? with
  | some io, some jo => match jo.dst with
    | some d => !io.reads.contains d || bitAt ms i k
    | none => true
  | _, _ => true

def dwell (ops : Array Oper) (all : List Ins) (m : Nat) : Bool :=
  let ms := masks ops.toList
  ((List.range ops.size).all fun k => (dirsAt ops k).all fun j => decide (j < k)) &&
  ((List.range ops.size).all fun k => (List.range ops.size).all fun x => !bitAt ms k x || (dirsAt ops k).contains x || (dirsAt ops k).any fun j => bitAt ms j x) &&
  scheck (all.take m) && ((all.take m).all fun io => io.op.opds.all Opd.plain) &&
  ((List.range m).all fun i => (List.range m).all fun k => depAt all ms i k) &&
  ((List.range ops.size).all fun i => decide (i < m) || (List.range i).all fun j => bitAt ms i j)

theorem dwell_spec {ops : Array Oper} {all : List Ins} {m : Nat} (h : dwell ops all m = true) : DW ops all m (masks ops.toList) := by
  simp only [dwell, Bool.and_eq_true, List.all_eq_true, List.mem_range, decide_eq_true_eq] at h
  obtain ⟨⟨⟨⟨⟨h1, h2⟩, h3⟩, h4⟩, h5⟩, h6⟩ := h
  refine ⟨fun k j hj => ?_, fun k x hk hx hb => ?_, h3, fun io hio x hx => h4 io hio x hx, fun i k io jo d hi hk hio hjo hd hr => ?_, fun i j hm hi hj => ?_⟩
  · rcases Nat.lt_or_ge k ops.size with hk | hk
    · exact h1 k hk j hj
    · rw [dirsAt, Array.getElem?_eq_none hk] at hj; cases hj
  · have := h2 k hk x hx
    rw [hb] at this
    simp only [Bool.not_true, Bool.false_or, Bool.or_eq_true, List.contains_iff_mem, List.any_eq_true] at this
    exact this
  · have := h5 i hi k hk
    simp only [depAt, hio, hjo, hd, Bool.or_eq_true, Bool.not_eq_true'] at this
    rcases this with h | h
    · have hc : io.reads.contains d = true := by simpa using hr
      rw [hc] at h; cases h
    · exact h
  · have := h6 i hi
    rw [decide_eq_false (by omega), Bool.false_or] at this
    exact List.all_eq_true.1 this j (List.mem_range.2 hj)

def unl (listed : Array Bool) (n : Nat) : Nat := ((List.range n).filter fun i => !listed.getD i true).length

theorem filter_le {p q : Nat → Bool} (h : ∀ x, q x = true → p x = true) : ∀ l : List Nat, (l.filter q).length ≤ (l.filter p).length
  | [] => Nat.le_refl _
  | x :: r => by
    have ih := filter_le h r
    simp only [List.filter_cons]
    cases hq : q x with
    | true => rw [h x hq]; simpa using ih
    | false => cases p x <;> simp <;> omega
theorem filter_lt {p q : Nat → Bool} (h : ∀ x, q x = true → p x = true) : ∀ (l : List Nat) (x : Nat), x ∈ l → p x = true → q x = false → (l.filter q).length < (l.filter p).length
  | [], x, hx, _, _ => by cases hx
  | y :: r, x, hx, hp, hq => by
    have hle := filter_le h r
    simp only [List.filter_cons]
    rcases List.mem_cons.1 hx with e | e
    · subst e; rw [hp, hq]; simp; omega
    · have ih := filter_lt h r x e hp hq
      cases hqy : q y with
      | true => rw [h y hqy]; simpa using ih
      | false => cases p y <;> simp <;> omega

theorem Steps_nil {w0 w : World} {O : Nat → Prop} {L : Lent} {n : Nat} {μ : Mu} {P : Program} {st st' : St} {a : Act} (hs : Steps P L.T [] st st') (h : StRel w0 O L n μ st a w) : ∃ μ', StRel w0 O L n μ' st' a w := by
  generalize hl : ([] : List Ins) = l at hs
  induction hs generalizing μ with
  | nil => exact ⟨μ, h⟩
  | cons => cases hl
  | norm hn _ ih =>
    obtain ⟨μ', h'⟩ := hn _ _ _ _ _ _ _ rfl h
    exact ih h' hl

theorem Steps_head {w0 w : World} {O : Nat → Prop} {L : Lent} {n : Nat} {μ : Mu} {P : Program} {io : Ins} {l : List Ins} {st st' : St} {a : Act} (hs : Steps P L.T (io :: l) st st') (h : StRel w0 O L n μ st a w) :
    ∃ μ' s1 s2, StRel w0 O L n μ' s1 a w ∧ Step P L.T io s1 s2 ∧ Steps P L.T l s2 st' := by
  generalize hl : io :: l = k at hs
  induction hs generalizing μ with
  | nil => cases hl
  | cons h1 h2 => cases hl; exact ⟨μ, _, _, h, h1, h2⟩
  | norm hn _ ih =>
    obtain ⟨μ', h'⟩ := hn _ _ _ _ _ _ _ rfl h
    exact ih h' hl

section
variable {w0 w : World} {O : Nat → Prop} {L : Lent} {n : Nat} {μ : Mu} {P : Program} {st st' fin : St} {a : Act} {ops : Array Oper} {all : List Ins} {m : Nat}

/-- Where a region stands. -/
inductive Inv (P : Program) (w0 : World) (O : Nat → Prop) (L : Lent) (n : Nat) (all : List Ins) (m : Nat) (st st' : St) (tr : List (PV × Rows)) (listed : Array Bool) (a : Act) (w : World) : Prop
  | pure (μ : Mu) (cur : St) (h : StRel w0 O L n μ cur a w) (hc : Cur (all.take m) tr st (fun k => listed.getD k false) cur) (hm : ∀ i, m ≤ i → listed.getD i false = false)
  | tail (k : Nat) (μ : Mu) (cur : St) (h : StRel w0 O L n μ cur a w) (hk : m ≤ k) (h1 : ∀ i, i < k → listed.getD i false = true) (h2 : ∀ i, k ≤ i → listed.getD i false = false) (hs : Steps P L.T (all.drop k) cur st')

theorem all_listed (hlow : ∀ k j, j ∈ dirsAt ops k → j < k) {listed : Array Bool} (hsz : listed.size = ops.size) (hr : Region.ready .any ops listed = []) : ∀ i, i < ops.size → listed.getD i false = true := by
  intro i
  induction i using Nat.strongRecOn with
  | _ i ih =>
    intro hi
    cases hl : listed.getD i false with
    | true => rfl
    | false =>
      exfalso
      have hm : i ∈ Region.ready .any ops listed := by
        rw [mem_ready]
        refine ⟨?_, ops[i], Array.getElem?_eq_getElem hi, fun e he hb => ih e.on ?_ ?_⟩
        · have hlt : i < listed.size := by omega
          simpa [Array.getD, hlt] using hl
        · refine hlow i e.on ?_
          simp only [dirsAt, Array.getElem?_eq_getElem hi, dirs, List.mem_map, List.mem_filter]
          exact ⟨e, ⟨by simpa using he, hb⟩, rfl⟩
        · have : e.on < i := by
            refine hlow i e.on ?_
            simp only [dirsAt, Array.getElem?_eq_getElem hi, dirs, List.mem_map, List.mem_filter]
            exact ⟨e, ⟨by simpa using he, hb⟩, rfl⟩
          omega
      rw [hr] at hm
      cases hm

theorem draw_any (hc : cios P n ops ops.toList = some all) (hw : dwell ops all m = true) (hmle : m ≤ ops.size) (h0 : Steps0 P (all.take m) st fin) (h1 : Steps P L.T (all.drop m) fin st') (h : StRel w0 O L n μ st a w) {Q : Exit → Act → World → Prop}
    (hQ : ∀ μ' a' w', StRel w0 O L n μ' st' a' w' → Q .normal a' w') : wpAny P .any ops Q ops.size (Array.replicate ops.size false) a w := by
  obtain ⟨hlen, hget⟩ := cios_get hc
  have hlen' : all.length = ops.size := by rw [← hlen]; simp
  have dw := dwell_spec hw
  obtain ⟨tr, ht⟩ := h0.trace dw.sc
  generalize hms : masks ops.toList = ms at dw
  have htake : ∀ {k : Nat} {io : Ins}, (all.take m)[k]? = some io → k < m ∧ all[k]? = some io := by
    intro k io hk
    rw [List.getElem?_take] at hk
    split at hk
    · exact ⟨by assumption, hk⟩
    · cases hk
  have hfull : ∀ {k : Nat}, k < ops.size → ∃ io o, all[k]? = some io ∧ ops[k]? = some o ∧ cio P n ops o = some io := by
    intro k hk
    have h1 : all[k]? = some (all[k]'(by omega)) := List.getElem?_eq_getElem (by omega)
    have h2 : ops[k]? = some ops[k] := Array.getElem?_eq_getElem hk
    exact ⟨_, _, h1, h2, hget k _ _ (by rw [Array.getElem?_toList]; exact h2) h1⟩
  -- the end
  have hend : ∀ (listed : Array Bool) (a : Act) (w : World), listed.size = ops.size → (∀ i, i < ops.size → listed.getD i false = true) → Inv P w0 O L n all m st st' tr listed a w → Q .normal a w := by
    intro listed a w hsz hl hinv
    cases hinv with
    | pure μ cur h hcur hm' =>
      have : m = ops.size := by
        rcases Nat.lt_or_ge m ops.size with h' | h'
        · have := hl m h'; rw [hm' m (Nat.le_refl _)] at this; cases this
        · omega
      have hcf : cur = fin := hcur.at_end ht fun k hk => hl k (by simp at hk; omega)
      subst hcf
      rw [List.drop_of_length_le (by omega)] at h1
      obtain ⟨μ', h'⟩ := Steps_nil h1 h
      exact hQ μ' a w h'
    | tail k μ cur h hk h1' h2' hs =>
      rw [List.drop_of_length_le (by
        rcases Nat.lt_or_ge k ops.size with h' | h'
        · have := hl k h'; rw [h2' k (Nat.le_refl _)] at this; cases this
        · omega)] at hs
      obtain ⟨μ', h'⟩ := Steps_nil hs h
      exact hQ μ' a w h'
  have key : ∀ (fuel : Nat) (listed : Array Bool) (a : Act) (w : World), unl listed ops.size ≤ fuel → listed.size = ops.size → (∀ k x, k < ops.size → x < ops.size → listed.getD k false = true → bitAt ms k x = true → listed.getD x false = true) →
      Inv P w0 O L n all m st st' tr listed a w → wpAny P .any ops Q fuel listed a w := by
    intro fuel
    induction fuel with
    | zero =>
      intro listed a w hu hsz hclo hinv
      have hall : ∀ i, i < ops.size → listed.getD i false = true := by
        intro i hi
        cases hl : listed.getD i false with
        | true => rfl
        | false =>
          have : i ∈ (List.range ops.size).filter fun i => !listed.getD i true := by
            rw [List.mem_filter, List.mem_range]
            have hlt : i < listed.size := by omega
            refine ⟨hi, ?_⟩
            simp [Array.getD, hlt] at hl ⊢
            exact hl
          unfold unl at hu
          rw [List.length_eq_zero_iff.1 (Nat.le_zero.1 hu)] at this
          cases this
      refine ⟨?_, hend listed a w hsz hall hinv⟩
      rw [List.eq_nil_iff_forall_not_mem]
      intro i hi
      rw [mem_ready] at hi
      obtain ⟨h1, o, ho, _⟩ := hi
      have hlt : i < ops.size := (Array.getElem?_eq_some_iff.1 ho).1
      have := hall i hlt
      have hlt' : i < listed.size := by omega
      simp [Array.getD, hlt'] at h1 this
      rw [h1] at this
      cases this
    | succ fuel ih =>
      intro listed a w hu hsz hclo hinv
      refine ⟨fun hr => hend listed a w hsz (all_listed dw.low hsz hr) hinv, fun i hi => ?_⟩
      rw [mem_ready] at hi
      obtain ⟨hun, o, ho, hed⟩ := hi
      have hi : i < ops.size := (Array.getElem?_eq_some_iff.1 ho).1
      have hlt : i < listed.size := by omega
      have hdir : ∀ j ∈ dirsAt ops i, listed.getD j false = true := by
        intro j hj
        simp only [dirsAt, ho, dirs, List.mem_map, List.mem_filter] at hj
        obtain ⟨e, ⟨he, hb⟩, rfl⟩ := hj
        exact hed e (by simpa using he) hb
      have hpre : ∀ x, x < ops.size → bitAt ms i x = true → listed.getD x false = true := by
        intro x hx hb
        rcases dw.clo i x hi hx hb with h | ⟨j, hj, hb'⟩
        · exact hdir x h
        · exact hclo j x (Nat.lt_trans (dw.low i j hj) hi) hx (hdir j hj) hb'
      have hgn : ∀ j, (listed.setIfInBounds i true).getD j false = true ↔ j = i ∨ listed.getD j false = true := by
        intro j
        by_cases hji : j = i
        · subst hji; simp [Array.getD, hlt]
        · rw [getD_set_ne false (Ne.symm hji)]; simp [hji]
      have hunf : listed.getD i false = false := by simpa [Array.getD, hlt] using hun
      have hu' : unl (listed.setIfInBounds i true) ops.size ≤ fuel := by
        have : unl (listed.setIfInBounds i true) ops.size < unl listed ops.size := by
          refine filter_lt (fun x hx => ?_) _ i (List.mem_range.2 hi) (by rw [hun]; rfl) (by simp [Array.getD, hlt])
          by_cases hxi : i = x
          · subst hxi; simp [Array.getD, hlt] at hx
          · rwa [getD_set_ne true hxi] at hx
        omega
      have hclo' : ∀ k x, k < ops.size → x < ops.size → (listed.setIfInBounds i true).getD k false = true → bitAt ms k x = true → (listed.setIfInBounds i true).getD x false = true := by
        intro k x hk hx hlk hb
        rw [hgn] at hlk ⊢
        rcases hlk with e | hlk
        · subst e; exact .inr (hpre x hx hb)
        · exact .inr (hclo k x hk hx hlk hb)
      have hgo : ∀ {μ : Mu} {cur : St} {a : Act} {w : World} {io : Ins} {s1 s2 : St}, StRel w0 O L n μ s1 a w → all[i]? = some io → Step P L.T io s1 s2 → (∀ μ' a' w', StRel w0 O L n μ' s2 a' w' → Inv P w0 O L n all m st st' tr (listed.setIfInBounds i true) a' w') →
          wpOp P ops Q i (wpAny P .any ops Q fuel (listed.setIfInBounds i true)) a w := by
        intro μ cur a w io s1 s2 hst hio hstep hK
        refine Step.goes ho (hget i o io (by rw [Array.getElem?_toList]; exact ho) hio) hst hstep fun μ' a' w' h' => ?_
        exact ih _ a' w' hu' (by simpa using hsz) hclo' (hK μ' a' w' h')
      obtain ⟨io, o', hio, ho', _⟩ := hfull hi
      have htail : ∀ {μ : Mu} {cur : St}, StRel w0 O L n μ cur a w → m ≤ i → (∀ j, i ≤ j → listed.getD j false = false) → Steps P L.T (all.drop i) cur st' → wpOp P ops Q i (wpAny P .any ops Q fuel (listed.setIfInBounds i true)) a w := by
        intro μ cur hst hmi hge hs
        have hdrop : all.drop i = io :: all.drop (i + 1) := by
          obtain ⟨hlt2, he⟩ := List.getElem?_eq_some_iff.1 hio
          rw [← he]
          exact List.drop_eq_getElem_cons hlt2
        rw [hdrop] at hs
        obtain ⟨μ', s1, s2, hs1, hstep, hrest⟩ := Steps_head hs hst
        refine hgo (cur := cur) hs1 hio hstep fun μ'' a' w' h' => .tail (i + 1) μ'' s2 h' (by omega) (fun j hj => ?_) (fun j hj => ?_) hrest
        · rw [hgn]
          by_cases hji : j = i
          · exact .inl hji
          · exact .inr (hpre j (by omega) (dw.suf i j hmi hi (by omega)))
        · rw [getD_set_ne false (by omega)]
          exact hge j (by omega)
      cases hinv with
      | pure μ cur hst hcur hm' =>
        by_cases hmi : m ≤ i
        · have him : i = m := by
            rcases Nat.lt_or_ge m i with h' | h'
            · have := hpre m (by omega) (dw.suf i m hmi hi h')
              rw [hm' m (Nat.le_refl _)] at this; cases this
            · omega
          subst him
          have hcf : cur = fin := hcur.at_end ht fun k hk => hpre k (by simp at hk; omega) (dw.suf i k hmi hi (by simp at hk; omega))
          subst hcf
          exact htail hst hmi (fun j hj => hm' j hj) h1
        · have him : i < m := by omega
          have htk : (all.take m)[i]? = some io := by rw [List.getElem?_take, if_pos him]; exact hio
          obtain ⟨p, N, hpN⟩ := ht.get htk
          have hrd : ∀ d ∈ io.reads, cur.s d = fin.s d := by
            intro d hd
            refine hcur.slot ht fun k jo hk hjd => ?_
            obtain ⟨hkm, hk'⟩ := htake hk
            exact hpre k (by omega) (dw.dep i k io jo d him hkm hio hk' hjd hd)
          have hsep : ∀ (k : Nat) (jo : Ins) (d : Nat), (all.take m)[k]? = some jo → k ≠ i → jo.dst = some d → io.dst ≠ some d := by
            intro k jo d hk hki hjd
            exact scheck_sep dw.sc k i jo io d hk htk hki hjd
          obtain ⟨hfresh, hcur'⟩ := hcur.step ht dw.sc htk hpN hunf (S' := fun k => (listed.setIfInBounds i true).getD k false) (fun k => hgn k) hsep
          have hnext : ∀ μ' a' w', StRel w0 O L n μ' (St.put ⟨cur.s, mrg N cur.r⟩ io.dst p) a' w' → Inv P w0 O L n all m st st' tr (listed.setIfInBounds i true) a' w' := by
            intro μ' a' w' h'
            exact .pure μ' _ h' hcur' fun j hj => by rw [getD_set_ne false (by omega)]; exact hm' j hj
          have hop : ∀ x ∈ io.op.opds, ∀ q, x.ev fin.s = some q → q.tk (fun t => (cur.r t).isSome) = true := by
            intro x hx q hq
            have hpl := dw.con io (List.mem_of_getElem? htk) x hx
            cases x with
            | c y => simp only [Opd.ev, Option.some.injEq] at hq; subst hq; exact PV.tk_free hpl _
            | t d =>
              have hd : d ∈ io.reads := List.mem_append_left _ (List.mem_flatMap.2 ⟨.t d, hx, by simp [Opd.slot]⟩)
              have hq' : cur.s d = some q := (hrd d hd).trans hq
              obtain ⟨v, _, hr⟩ := hst.slot d q hq'
              exact hr.tk
          rcases ht.fact i io p N htk hpN with ⟨hg, hp⟩ | ⟨hg, hp, hN⟩
          · refine hgo (cur := cur) hst hio (.run ((gok_of_reads hrd).trans hg) (.pur p N (hp.congr (opds_of_reads hrd) hop fun t ht' => ?_) hfresh)) hnext
            obtain ⟨row, hrow⟩ := Option.isSome_iff_exists.1 ht'
            rw [hrow, hcur.sub ht hrow]
          · subst hp
            subst hN
            exact hgo (cur := cur) hst hio (.skip ((gok_of_reads hrd).trans hg)) hnext
      | tail k μ cur hst hk h1' h2' hs =>
        have hik : i = k := by
          rcases Nat.lt_trichotomy i k with h' | h' | h'
          · have := h1' i h'; rw [hunf] at this; cases this
          · exact h'
          · have := hpre k (by omega) (dw.suf i k (by omega) hi h')
            rw [h2' k (Nat.le_refl _)] at this; cases this
        subst hik
        exact htail hst hk h2' hs
  refine key ops.size _ a w ?_ (by simp) (fun k x hk hx hl _ => ?_) (.pure μ st h ⟨fun k io p N d _ _ hS => ?_, fun _ _ => rfl, fun k p N t row _ hS => ?_, fun _ _ => rfl⟩ fun i _ => ?_)
  · unfold unl
    exact Nat.le_trans (List.length_filter_le _ _) (by simp)
  · simp [Array.getD, hk] at hl
  · exfalso
    simp only [Array.getD] at hS
    split at hS
    · simp at hS
    · cases hS
  · exfalso
    simp only [Array.getD] at hS
    split at hS
    · simp at hS
    · cases hS
  · simp only [Array.getD]
    split
    · simp
    · rfl
end
end Go.Vd
