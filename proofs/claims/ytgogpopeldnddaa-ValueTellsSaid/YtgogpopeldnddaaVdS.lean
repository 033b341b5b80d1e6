/- Code compiled; its big steps on abstract states; that the machine takes them. -/
import Derived.Test.YtgogpopeldnddaaVdR
import Derived.Orders
set_option linter.unusedVariables false
set_option linter.unusedSimpArgs false
namespace Go.Vd
open Go.RowKit

def isE : IOp → Bool
  | .box _ | .bsl _ _ | .cvs _ | .mks _ _ _ _ | .store _ _ _ | .app _ _ _ _ | .aps _ _ | .call _ _ | .calv _ _ => true
  | _ => false

def cboth (P : Program) (o : Oper) : Option IOp :=
  match copE P o with
  | some io => some io
  | none => match cop P o with
    | some io => bif isE io then none else some io
    | none => none

/-- An operation in its region: where it goes, what it is, the test that guards it. -/
structure Ins where
  dst : Option Nat
  op : IOp
  guard : Option (Nat × Bool)

def cguard (ops : Array Oper) : Option (Nat × Bool) → Option (Option (Nat × Bool))
  | none => some none
  | some (j, b) => match (ops[j]?).bind (·.dst) with
    | some g => some (some (g, b))
    | none => none

def cio (P : Program) (n : Nat) (ops : Array Oper) (o : Oper) : Option Ins :=
  match cboth P o, cguard ops o.guard with
  | some io, some g => if (o.dst.all fun d => decide (d < n)) = true then some ⟨o.dst, io, g⟩ else none
  | _, _ => none

def cios (P : Program) (n : Nat) (ops : Array Oper) : List Oper → Option (List Ins)
  | [] => some []
  | o :: r => match cio P n ops o, cios P n ops r with
    | some x, some q => some (x :: q)
    | _, _ => none

def gok (s : Slots) : Option (Nat × Bool) → Option Bool
  | none => some true
  | some (g, b) => match s g with
    | some (.bool c) => some (c == b)
    | some .undef => some false
    | _ => none

inductive Step (P : Program) (T : Nat → Bool) : Ins → St → St → Prop
  | run {io : Ins} {st st' : St} (hg : gok st.s io.guard = some true) (h : OpS P T io.op io.dst st st') : Step P T io st st'
  | skip {io : Ins} {st : St} (hg : gok st.s io.guard = some false) : Step P T io st (st.put io.dst .undef)

/-- Another state that stands for the same. -/
def Norm (T : Nat → Bool) (st st' : St) : Prop := ∀ (w0 : World) (O : Nat → Prop) (L : Lent) (n : Nat) (μ : Mu) (a : Act) (w : World), L.T = T → StRel w0 O L n μ st a w → ∃ μ', StRel w0 O L n μ' st' a w

inductive Steps (P : Program) (T : Nat → Bool) : List Ins → St → St → Prop
  | nil {st : St} : Steps P T [] st st
  | cons {io : Ins} {l : List Ins} {st st1 st2 : St} (h : Step P T io st st1) (k : Steps P T l st1 st2) : Steps P T (io :: l) st st2
  | norm {l : List Ins} {st st1 st2 : St} (h : Norm T st st1) (k : Steps P T l st1 st2) : Steps P T l st st2

section
variable {w0 w : World} {O : Nat → Prop} {L : Lent} {n : Nat} {μ : Mu} {P : Program} {st st' : St} {a : Act}

theorem copE_isE {o : Oper} {io : IOp} (h : copE P o = some io) : isE io = true := by
  cases copE_inv h <;> rfl

theorem cboth_inv {o : Oper} {io : IOp} (h : cboth P o = some io) : (isE io = true ∧ copE P o = some io) ∨ (isE io = false ∧ cop P o = some io) := by
  unfold cboth at h
  cases h1 : copE P o with
  | some x => simp only [h1, Option.some.injEq] at h; subst h; exact .inl ⟨copE_isE h1, rfl⟩
  | none =>
    simp only [h1] at h
    cases h2 : cop P o with
    | none => simp [h2] at h
    | some x =>
      simp only [h2] at h
      cases hx : isE x with
      | true => rw [hx] at h; cases h
      | false => rw [hx, cond_false, Option.some.injEq] at h; subst h; exact .inr ⟨hx, rfl⟩

theorem pop_isE {s : Slots} {r : Rows} {io : IOp} (h : isE io = true) : pop s r io = none := by
  cases io <;> first | rfl | simp [isE] at h

theorem OpS.goes' {o : Oper} {io : IOp} (hc : cboth P o = some io) (hd : ∀ d, o.dst = some d → d < n) (h : StRel w0 O L n μ st a w) (hs : OpS P L.T io o.dst st st') {K : Act → World → Prop}
    (hK : ∀ μ' a' w', StRel w0 O L n μ' st' a' w' → K a' w') (Q : Exit → Act → World → Prop) : o.wp P a w K Q := by
  rcases cboth_inv hc with ⟨h1, h2⟩ | ⟨h1, h2⟩
  · exact hs.goes (.inr h2) (fun p hp => by rw [pop_isE h1] at hp; cases hp) (fun _ => h2) hd h hK Q
  · have : ∃ p, pop st.s st.r io = some p := by
      cases hs with
      | pur p N hp hn => cases hp <;> first | exact ⟨_, by assumption⟩ | simp [isE] at h1
      | _ => simp [isE] at h1
    obtain ⟨p, hp⟩ := this
    exact hs.goes (.inl h2) (fun _ _ => h2) (fun hno => by rw [hp] at hno; cases hno) hd h hK Q

theorem cio_inv {ops : Array Oper} {o : Oper} {io : Ins} (h : cio P n ops o = some io) : cboth P o = some io.op ∧ io.dst = o.dst ∧ (∀ d, o.dst = some d → d < n) ∧ cguard ops o.guard = some io.guard := by
  unfold cio at h
  cases h1 : cboth P o with
  | none => simp [h1] at h
  | some x =>
    cases h2 : cguard ops o.guard with
    | none => simp [h1, h2] at h
    | some g =>
      simp only [h1, h2] at h
      split at h
      · rename_i hd
        cases h
        refine ⟨rfl, rfl, fun d hd' => ?_, rfl⟩
        rw [hd'] at hd
        simpa using hd
      · cases h

theorem wanted_of {ops : Array Oper} {o : Oper} {g : Option (Nat × Bool)} (hg : cguard ops o.guard = some g) (h : StRel w0 O L n μ st a w) {b : Bool} (hb : gok st.s g = some b) : Region.wanted o (yielded ops a.tmps) = b := by
  unfold Region.wanted
  cases ho : o.guard with
  | none =>
    rw [ho] at hg
    simp only [cguard, Option.some.injEq] at hg
    subst hg
    simp only [gok, Option.some.injEq] at hb
    exact hb
  | some jb =>
    obtain ⟨j, want⟩ := jb
    rw [ho] at hg
    simp only [cguard] at hg
    cases hj : (ops[j]?).bind (·.dst) with
    | none => simp [hj] at hg
    | some d =>
      simp only [hj, Option.some.injEq] at hg
      subst hg
      simp only [gok] at hb
      simp only [yielded, hj, Option.bind_some]
      cases hs : st.s d with
      | none => simp [hs] at hb
      | some p =>
        obtain ⟨v, hv, hr⟩ := h.slot d p hs
        cases p <;> simp only [hs] at hb <;> try (cases hb; done)
        case bool c =>
          cases hb
          cases hr.bool_inv
          simp only [hv]
          cases c <;> cases want <;> rfl
        case undef =>
          cases hb
          have : v = undef := by cases hr with | base _ _ h => cases h; rfl
          subst this
          simp only [hv]
          cases want <;> rfl

theorem Step.goes {ops : Array Oper} {i : Nat} {o : Oper} {io : Ins} (hi : ops[i]? = some o) (hc : cio P n ops o = some io) (h : StRel w0 O L n μ st a w) (hs : Step P L.T io st st') {Q : Exit → Act → World → Prop} {K : Act → World → Prop}
    (hK : ∀ μ' a' w', StRel w0 O L n μ' st' a' w' → K a' w') : wpOp P ops Q i K a w := by
  obtain ⟨h1, h2, h3, h4⟩ := cio_inv hc
  unfold wpOp
  simp only [hi]
  cases hs with
  | run hg hop =>
    rw [wanted_of h4 h hg, if_pos rfl]
    rw [h2] at hop
    exact .inl (hop.goes' h1 h3 h hK Q)
  | skip hg =>
    rw [wanted_of h4 h hg, if_neg (by simp)]
    rw [h2] at hK
    exact hK μ _ _ (h.put o.dst h3 (.base _ _ .undef))

theorem cios_get {ops : Array Oper} : ∀ {l : List Oper} {q : List Ins}, cios P n ops l = some q → l.length = q.length ∧ ∀ (j : Nat) (o : Oper) (io : Ins), l[j]? = some o → q[j]? = some io → cio P n ops o = some io
  | [], q, h => by
    simp only [cios, Option.some.injEq] at h
    subst h
    exact ⟨rfl, fun j o io hj => by simp at hj⟩
  | o :: r, q, h => by
    simp only [cios] at h
    cases h1 : cio P n ops o with
    | none => simp [h1] at h
    | some x =>
      cases h2 : cios P n ops r with
      | none => simp [h1, h2] at h
      | some q' =>
        simp only [h1, h2, Option.some.injEq] at h
        subst h
        obtain ⟨e1, e2⟩ := cios_get h2
        refine ⟨by simp [e1], fun j o' io' hj hio => ?_⟩
        cases j with
        | zero => simp at hj hio; subst hj; subst hio; exact h1
        | succ j => exact e2 j o' io' (by simpa using hj) (by simpa using hio)

/-- A region in its text's order. -/
theorem steps_wpOps {ops : Array Oper} {Q : Exit → Act → World → Prop} {all : List Ins} (hc : cios P n ops ops.toList = some all) {l : List Ins} {st st' : St} (hs : Steps P L.T l st st') :
    ∀ (k : Nat), all.drop k = l → ∀ (μ : Mu) (a : Act) (w : World), StRel w0 O L n μ st a w → (∀ μ' a' w', StRel w0 O L n μ' st' a' w' → Q .normal a' w') → wpOps P ops Q (List.range' k l.length) a w := by
  obtain ⟨hlen, hget⟩ := cios_get hc
  induction hs with
  | nil => intro k hk μ a w h hQ; exact hQ μ a w h
  | norm hn hk ih =>
    intro k hkk μ a w h hQ
    obtain ⟨μ', h'⟩ := hn _ _ _ _ _ _ _ rfl h
    exact ih k hkk μ' a w h' hQ
  | cons hstep hrest ih =>
    rename_i io l st st1 st2
    intro k hk μ a w h hQ
    have hkk : all[k]? = some io := by
      have := congrArg (fun m => m[0]?) hk
      simpa using this
    obtain ⟨hlt, _⟩ := List.getElem?_eq_some_iff.1 hkk
    have hlt' : k < ops.toList.length := by omega
    have ho : ops.toList[k]? = some (ops.toList[k]'hlt') := List.getElem?_eq_getElem hlt'
    have ho2 : ops[k]? = some (ops.toList[k]'hlt') := by rw [← Array.getElem?_toList]; exact ho
    rw [List.length_cons, List.range'_succ, wpOps_cons]
    refine Step.goes ho2 (hget k _ io ho hkk) h hstep fun μ' a' w' h' => ?_
    refine ih (k + 1) ?_ μ' a' w' h' hQ
    have := congrArg List.tail hk
    simpa [List.tail_drop] using this

end
end Go.Vd
