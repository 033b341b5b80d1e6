/- Code compiled; its big steps; that the machine takes them; from there a function's contract. -/
import Derived.Test.YtgogpopeldnddaaVdV
set_option linter.unusedVariables false
set_option linter.unusedSimpArgs false
namespace Go.Vd
open Go.RowKit

inductive IC where
  | skip
  | reg (ios : List Ins)
  | regd (m : Nat) (ios : List Ins)
  | seq (a b : IC)
  | cond (c : Opd) (a b : IC)
  | block (id : Nat) (b : IC)
  | loop (b : IC)
  | exit (id : Nat)
  | ret
  | mark (a : IC)

/-- Operations at a region's beginning that make at most new rows. -/
def purOp : IOp → Bool
  | .store _ _ _ | .app _ _ _ _ | .aps _ _ => false
  | _ => true
def purs : List Ins → Nat
  | [] => 0
  | io :: r => bif purOp io.op then purs r + 1 else 0

def ccode (P : Program) (n : Nat) : Code → Option IC
  | .skip => some .skip
  | .label _ => some .skip
  | .region _ ops false => (cios P n ops ops.toList).map .reg
  | .region _ ops true => match cios P n ops ops.toList with
    | some ios => let m := purs ios; bif dwell ops ios m && decide (m ≤ ops.size) then some (.regd m ios) else none
    | none => none
  | .seq a b => match ccode P n a, ccode P n b with
    | some x, some y => some (.seq x y)
    | _, _ => none
  | .cond c a b => match copd c, ccode P n a, ccode P n b with
    | some z, some x, some y => some (.cond z x y)
    | _, _, _ => none
  | .block id b => (ccode P n b).map (.block id)
  | .loop b => (ccode P n b).map .loop
  | .exit id => some (.exit id)
  | .ret => some .ret
  | _ => none

inductive Xt where
  | normal
  | exit (id : Nat)
  | ret

def Xt.ex : Xt → Exit
  | .normal => .normal
  | .exit id => .exit id
  | .ret => .ret

def Xt.blk (id : Nat) : Xt → Xt
  | .exit j => bif Nat.beq j id then .normal else .exit j
  | e => e

inductive Ex (P : Program) (T : Nat → Bool) : IC → St → Xt → St → Prop
  | skip {st : St} : Ex P T .skip st .normal st
  | reg {ios : List Ins} {st st' : St} (h : Steps P T ios st st') : Ex P T (.reg ios) st .normal st'
  | regd {m : Nat} {ios : List Ins} {st fin st' : St} (h : Steps0 P (ios.take m) st fin) (k : Steps P T (ios.drop m) fin st') : Ex P T (.regd m ios) st .normal st'
  | seq {a b : IC} {st st1 st2 : St} {e : Xt} (h : Ex P T a st .normal st1) (k : Ex P T b st1 e st2) : Ex P T (.seq a b) st e st2
  | seqx {a b : IC} {st st1 : St} {e : Xt} (h : Ex P T a st e st1) (he : e ≠ .normal) : Ex P T (.seq a b) st e st1
  | cond {c : Opd} {a b : IC} {st st' : St} {e : Xt} (t : Bool) (hc : c.ev st.s = some (.bool t)) (h : Ex P T (bif t then a else b) st e st') : Ex P T (.cond c a b) st e st'
  | block {id : Nat} {b : IC} {st st' : St} {e : Xt} (h : Ex P T b st e st') : Ex P T (.block id b) st (e.blk id) st'
  | loop {b : IC} {st st1 st2 : St} {e : Xt} (h : Ex P T b st .normal st1) (k : Ex P T (.loop b) st1 e st2) : Ex P T (.loop b) st e st2
  | loopx {b : IC} {st st1 : St} {e : Xt} (h : Ex P T b st e st1) (he : e ≠ .normal) : Ex P T (.loop b) st e st1
  | exit {id : Nat} {st : St} : Ex P T (.exit id) st (.exit id) st
  | ret {st : St} : Ex P T .ret st .ret st
  | norm {c : IC} {st st1 st2 : St} {e : Xt} (h : Norm T st st1) (k : Ex P T c st1 e st2) : Ex P T c st e st2
  | normr {c : IC} {st st1 st2 : St} {e : Xt} (k : Ex P T c st e st1) (h : Norm T st1 st2) : Ex P T c st e st2

section
variable {P : Program} {n : Nat}

inductive CC (P : Program) (n : Nat) : Code → IC → Prop
  | skip : CC P n .skip .skip
  | label (l : Nat) : CC P n (.label l) .skip
  | reg (id : Nat) (ops : Array Oper) (ios : List Ins) (h : cios P n ops ops.toList = some ios) : CC P n (.region id ops false) (.reg ios)
  | regd (id : Nat) (ops : Array Oper) (ios : List Ins) (m : Nat) (h : cios P n ops ops.toList = some ios) (hd : dwell ops ios m = true) (hm : m ≤ ops.size) : CC P n (.region id ops true) (.regd m ios)
  | seq (a b : Code) (x y : IC) (h1 : ccode P n a = some x) (h2 : ccode P n b = some y) : CC P n (.seq a b) (.seq x y)
  | cond (c : Operand) (a b : Code) (z : Opd) (x y : IC) (h0 : copd c = some z) (h1 : ccode P n a = some x) (h2 : ccode P n b = some y) : CC P n (.cond c a b) (.cond z x y)
  | block (id : Nat) (b : Code) (x : IC) (h : ccode P n b = some x) : CC P n (.block id b) (.block id x)
  | loop (b : Code) (x : IC) (h : ccode P n b = some x) : CC P n (.loop b) (.loop x)
  | exit (id : Nat) : CC P n (.exit id) (.exit id)
  | ret : CC P n .ret .ret

theorem ccode_inv {c : Code} {ic : IC} (h : ccode P n c = some ic) : CC P n c ic := by
  unfold ccode at h
  split at h <;> try (cases h; done)
  · cases h; exact .skip
  · cases h; exact .label _
  · obtain ⟨x, h1, hx⟩ := Option.map_eq_some_iff.1 h
    cases hx
    exact .reg _ _ _ h1
  · split at h
    · rename_i ios hios
      simp only [Bool.cond_eq_ite] at h
      split at h
      · rename_i hd
        cases h
        rw [Bool.and_eq_true, decide_eq_true_eq] at hd
        exact .regd _ _ _ _ hios hd.1 hd.2
      · cases h
    · cases h
  · split at h
    · rename_i h1 h2
      cases h
      exact .seq _ _ _ _ h1 h2
    · cases h
  · split at h
    · rename_i h0 h1 h2
      cases h
      exact .cond _ _ _ _ _ _ h0 h1 h2
    · cases h
  · obtain ⟨x, h1, hx⟩ := Option.map_eq_some_iff.1 h
    cases hx
    exact .block _ _ _ h1
  · obtain ⟨x, h1, hx⟩ := Option.map_eq_some_iff.1 h
    cases hx
    exact .loop _ _ h1
  · cases h; exact .exit _
  · cases h; exact .ret

theorem ccode_loop {c : Code} {b : IC} (h : ccode P n c = some (.loop b)) : ∃ c', c = .loop c' ∧ ccode P n c' = some b := by
  cases ccode_inv h with
  | loop c' _ h => exact ⟨c', rfl, h⟩

/-- What the big steps promise of the machine. -/
def Goes (P : Program) (T : Nat → Bool) (n : Nat) (ic : IC) (st : St) (e : Xt) (st' : St) : Prop :=
  (∀ c, ccode P n c = some ic → ∀ (w0 : World) (O : Nat → Prop) (L : Lent) (μ : Mu) (a : Act) (w : World) (Q : Exit → Act → World → Prop), L.T = T → StRel w0 O L n μ st a w →
    (∀ μ' a' w', StRel w0 O L n μ' st' a' w' → Q e.ex a' w') → c.wp P Q a w) ∧
  (∀ b c, ic = .loop b → ccode P n c = some b → ∃ k, ∀ (w0 : World) (O : Nat → Prop) (L : Lent) (μ : Mu) (a : Act) (w : World) (Q : Exit → Act → World → Prop), L.T = T → StRel w0 O L n μ st a w →
    (∀ μ' a' w', StRel w0 O L n μ' st' a' w' → Q e.ex a' w') → Code.rounds P c Q k a w)

theorem Goes.of {T : Nat → Bool} {ic : IC} {st : St} {e : Xt} {st' : St} (hl : ∀ b, ic ≠ .loop b) (h : ∀ c, ccode P n c = some ic → ∀ (w0 : World) (O : Nat → Prop) (L : Lent) (μ : Mu) (a : Act) (w : World) (Q : Exit → Act → World → Prop), L.T = T → StRel w0 O L n μ st a w →
    (∀ μ' a' w', StRel w0 O L n μ' st' a' w' → Q e.ex a' w') → c.wp P Q a w) : Goes P T n ic st e st' := ⟨h, fun b c hb => absurd hb (hl b)⟩

theorem Goes.ofLoop {T : Nat → Bool} {b : IC} {st : St} {e : Xt} {st' : St} (h : ∀ c, ccode P n c = some b → ∃ k, ∀ (w0 : World) (O : Nat → Prop) (L : Lent) (μ : Mu) (a : Act) (w : World) (Q : Exit → Act → World → Prop), L.T = T → StRel w0 O L n μ st a w →
    (∀ μ' a' w', StRel w0 O L n μ' st' a' w' → Q e.ex a' w') → Code.rounds P c Q k a w) : Goes P T n (.loop b) st e st' := by
  refine ⟨fun c hc w0 O L μ a w Q hT hst hQ => ?_, fun b' c hb hc => by cases hb; exact h c hc⟩
  obtain ⟨c', rfl, hc'⟩ := ccode_loop hc
  obtain ⟨k, hk⟩ := h c' hc'
  exact wp_loop_rounds k (hk w0 O L μ a w Q hT hst hQ)

theorem then_ne {e : Xt} (he : e ≠ .normal) {K : Act → World → Prop} {Q : Exit → Act → World → Prop} {a : Act} {w : World} (h : Q e.ex a w) : Exit.then K Q e.ex a w := by
  cases e with
  | normal => exact absurd rfl he
  | exit id => exact h
  | ret => exact h

theorem Ex.goes (hm : P.follows .mixedOrders = true) {T : Nat → Bool} {ic : IC} {st : St} {e : Xt} {st' : St} (h : Ex P T ic st e st') : Goes P T n ic st e st' := by
  induction h with
  | skip =>
    refine .of (fun b => by simp) fun c hc w0 O L μ a w Q hT hst hQ => ?_
    cases ccode_inv hc with
    | skip => exact wp_skip (hQ μ a w hst)
    | label l => exact wp_label (hQ μ a w hst)
  | reg h =>
    refine .of (fun b => by simp) fun c hc w0 O L μ a w Q hT hst hQ => ?_
    cases ccode_inv hc with
    | reg id ops x h1 =>
      subst hT
      refine wp_region ?_
      have := steps_wpOps (Q := Q) h1 h 0 rfl μ a w hst hQ
      rw [← (cios_get h1).1] at this
      rw [List.range_eq_range']
      simpa using this
  | regd h k =>
    refine .of (fun b => by simp) fun c hc w0 O L μ a w Q hT hst hQ => ?_
    cases ccode_inv hc with
    | regd id ops ios m hios hd hle =>
      subst hT
      exact wp_region_any hm (draw_any hios hd hle h k hst.drew hQ)
  | seq h k ih1 ih2 =>
    refine .of (fun b => by simp) fun c hc w0 O L μ a w Q hT hst hQ => ?_
    cases ccode_inv hc with
    | seq x y _ _ h1 h2 =>
      refine wp_seq (ih1.1 x h1 w0 O L μ a w _ hT hst fun μ' a' w' hst' => ?_)
      exact ih2.1 y h2 w0 O L μ' a' w' Q hT hst' hQ
  | seqx h he ih =>
    refine .of (fun b => by simp) fun c hc w0 O L μ a w Q hT hst hQ => ?_
    cases ccode_inv hc with
    | seq x y _ _ h1 h2 => exact wp_seq (ih.1 x h1 w0 O L μ a w _ hT hst fun μ' a' w' hst' => then_ne he (hQ μ' a' w' hst'))
  | cond t hcnd h ih =>
    refine .of (fun b => by simp) fun c hc w0 O L μ a w Q hT hst hQ => ?_
    cases ccode_inv hc with
    | cond c' x y z _ _ h0 h1 h2 =>
      have hb := (ev_rel hst.slots h0 hcnd).bool_inv
      refine wp_cond hb ?_
      cases t with
      | true => exact ih.1 x h1 w0 O L μ a w Q hT hst hQ
      | false => exact ih.1 y h2 w0 O L μ a w Q hT hst hQ
  | block h ih =>
    rename_i id b st st' e
    refine .of (fun b => by simp) fun c hc w0 O L μ a w Q hT hst hQ => ?_
    cases ccode_inv hc with
    | block id' b' _ h1 =>
      refine wp_block (ih.1 b' h1 w0 O L μ a w _ hT hst fun μ' a' w' hst' => ?_)
      have hq := hQ μ' a' w' hst'
      cases e with
      | normal => exact hq
      | ret => exact hq
      | exit j =>
        simp only [Xt.ex, Exit.inBlock]
        by_cases hj : j = id
        · subst hj
          rw [if_pos rfl]
          simpa [Xt.blk, Xt.ex] using hq
        · rw [if_neg hj]
          have : Nat.beq j id = false := by rw [← Bool.not_eq_true, Nat.beq_eq]; exact hj
          simpa only [Xt.blk, this, cond_false, Xt.ex] using hq
  | loop h k ih1 ih2 =>
    refine .ofLoop fun c hc => ?_
    obtain ⟨m, hm'⟩ := ih2.2 _ c rfl hc
    refine ⟨m + 1, fun w0 O L μ a w Q hT hst hQ => ?_⟩
    rw [rounds_succ]
    exact ih1.1 c hc w0 O L μ a w _ hT hst fun μ' a' w' hst' => hm' w0 O L μ' a' w' Q hT hst' hQ
  | loopx h he ih =>
    refine .ofLoop fun c hc => ⟨1, fun w0 O L μ a w Q hT hst hQ => ?_⟩
    rw [rounds_succ]
    exact ih.1 c hc w0 O L μ a w _ hT hst fun μ' a' w' hst' => then_ne he (hQ μ' a' w' hst')
  | exit =>
    refine .of (fun b => by simp) fun c hc w0 O L μ a w Q hT hst hQ => ?_
    cases ccode_inv hc with
    | exit id => exact wp_exit (hQ μ a w hst)
  | ret =>
    refine .of (fun b => by simp) fun c hc w0 O L μ a w Q hT hst hQ => ?_
    cases ccode_inv hc with
    | ret => exact wp_ret (hQ μ a w hst)
  | norm h k ih =>
    refine ⟨fun c hc w0 O L μ a w Q hT hst hQ => ?_, fun b c hb hc => ?_⟩
    · obtain ⟨μ', hst'⟩ := h w0 O L n μ a w hT hst
      exact ih.1 c hc w0 O L μ' a w Q hT hst' hQ
    · obtain ⟨m, hm'⟩ := ih.2 b c hb hc
      refine ⟨m, fun w0 O L μ a w Q hT hst hQ => ?_⟩
      obtain ⟨μ', hst'⟩ := h w0 O L n μ a w hT hst
      exact hm' w0 O L μ' a w Q hT hst' hQ
  | normr k h ih =>
    refine ⟨fun c hc w0 O L μ a w Q hT hst hQ => ?_, fun b c hb hc => ?_⟩
    · refine ih.1 c hc w0 O L μ a w Q hT hst fun μ' a' w' hst' => ?_
      obtain ⟨μ'', hst''⟩ := h w0 O L n μ' a' w' hT hst'
      exact hQ μ'' a' w' hst''
    · obtain ⟨m, hm'⟩ := ih.2 b c hb hc
      refine ⟨m, fun w0 O L μ a w Q hT hst hQ => hm' w0 O L μ a w Q hT hst fun μ' a' w' hst' => ?_⟩
      obtain ⟨μ'', hst''⟩ := h w0 O L n μ' a' w' hT hst'
      exact hQ μ'' a' w' hst''
end
end Go.Vd
