/- Comparisons of structs, closures, conversions, the greater and the lesser. -/
import Derived.Test.YtgogpopeldnddaaVdG
set_option linter.unusedVariables false
set_option linter.unusedSimpArgs false
namespace Go.Vd
open Go.RowKit

mutual
/-- The kinds of a type's cells, if all can be compared at sight. -/
def kindsOf (P : Program) : Nat → TypeId → Option (List CK)
  | 0, _ => none
  | d + 1, t => match P.underlying t with
    | some (.int k) => if szT P t = some 1 then some [.i k] else none
    | some .bool => if szT P t = some 1 then some [.b] else none
    | some .string => if szT P t = some 1 then some [.s] else none
    | some (.struct fs) => if P.stoodInHeld t = true then none else kfields P d 0 fs.toList
    | _ => none
def kfields (P : Program) : Nat → Nat → List Field → Option (List CK)
  | _, _, [] => some []
  | d, off, f :: r => match kindsOf P d f.type, kfields P d (off + (szT P f.type).getD 0) r with
    | some k1, some k2 => if f.name ≠ "_" ∧ f.offset = off ∧ szT P f.type = some k1.length ∧ 0 < k1.length then some (k1 ++ k2) else none
    | _, _ => none
end

section
variable {w : World} {O : Nat → Prop} {μ : Mu} {R : Rows} {P : Program}

theorem ceqs_len {ks : List CK} {xs ys : List PV} {b : Bool} (h : ceqs ks xs ys = some b) : xs.length = ks.length ∧ ys.length = ks.length := by
  induction ks generalizing xs ys b with
  | nil => cases xs <;> cases ys <;> simp [ceqs] at h ⊢
  | cons k ks ih =>
    cases xs with
    | nil => simp [ceqs] at h
    | cons x xs =>
      cases ys with
      | nil => simp [ceqs] at h
      | cons y ys =>
        simp only [ceqs] at h
        cases hx : ceq k x y with
        | none => simp [hx] at h
        | some c =>
          cases hr : ceqs ks xs ys with
          | none => simp [hx, hr] at h
          | some c' => have := ih hr; simp [this.1, this.2]

theorem ceqs_append {k1 k2 : List CK} {xs ys : List PV} {b : Bool} (h : ceqs (k1 ++ k2) xs ys = some b) :
    ∃ b1 b2, ceqs k1 (xs.take k1.length) (ys.take k1.length) = some b1 ∧ ceqs k2 (xs.drop k1.length) (ys.drop k1.length) = some b2 ∧ b = (b1 && b2) := by
  induction k1 generalizing xs ys b with
  | nil => exact ⟨true, b, by simp [ceqs], by simpa using h, by simp⟩
  | cons k k1 ih =>
    cases xs with
    | nil => simp [ceqs] at h
    | cons x xs =>
      cases ys with
      | nil => simp [ceqs] at h
      | cons y ys =>
        simp only [List.cons_append, ceqs] at h
        cases hx : ceq k x y with
        | none => simp [hx] at h
        | some c =>
          cases hr : ceqs (k1 ++ k2) xs ys with
          | none => simp [hx, hr] at h
          | some c' =>
            simp only [hx, hr, Option.some.injEq] at h
            obtain ⟨b1, b2, h1, h2, h3⟩ := ih hr
            exact ⟨c && b1, b2, by simp [ceqs, hx, h1], by simpa using h2, by rw [← h, h3, Bool.and_assoc]⟩

/-- Lists of values that stand for lists of cells. -/
structure CellsRel (w : World) (O : Nat → Prop) (μ : Mu) (R : Rows) (cs : List PV) (vs : List Value) : Prop where
  len : vs.length = cs.length
  rel : ∀ (j : Nat) (p : PV) (u : Value), cs[j]? = some p → vs[j]? = some u → Rel w O μ R p u

theorem CellsRel.part {cs : List PV} {vs : List Value} (h : CellsRel w O μ R cs vs) (off sz : Nat) : CellsRel w O μ R ((cs.drop off).take sz) ((vs.drop off).take sz) := by
  refine ⟨by simp [h.len], fun j p u hj hu => ?_⟩
  rw [List.getElem?_take] at hj hu
  split at hj
  · rename_i hlt
    rw [if_pos hlt] at hu
    rw [List.getElem?_drop] at hj hu
    exact h.rel _ p u hj hu
  · cases hj

def IsVal (P : Program) (t : TypeId) (us : List Value) (u : Value) : Prop := (isAggT P t = some true ∧ u = .agg us.toArray) ∨ (isAggT P t = some false ∧ us = [u])

theorem isVal_part {t : TypeId} {sz : Nat} (hz : szT P t = some sz) (ha : isAggT P t = some true ∨ (isAggT P t = some false ∧ sz = 1)) (us : List Value) (off : Nat) (ho : off + sz ≤ us.length) :
    ∃ u, (part t us.toArray off).run P w = .ok u w ∧ IsVal P t ((us.drop off).take sz) u := by
  rcases ha with ha | ⟨ha, rfl⟩
  · refine ⟨.agg ((us.drop off).take sz).toArray, ?_, .inl ⟨ha, rfl⟩⟩
    simp [part, run_isAggT ha, run_szT hz]
  · have hu : us[off]? = some (us[off]'(by omega)) := List.getElem?_eq_getElem (by omega)
    refine ⟨us[off]'(by omega), by simp [part, run_isAggT ha, hu], .inr ⟨ha, ?_⟩⟩
    rw [List.drop_eq_getElem_cons (by omega)]
    rfl

theorem kindsOf_agg {d : Nat} {t : TypeId} {ks : List CK} (h : kindsOf P d t = some ks) : isAggT P t = some true ∨ (isAggT P t = some false ∧ ks.length = 1) := by
  cases d with
  | zero => simp [kindsOf] at h
  | succ d =>
    rw [kindsOf] at h
    unfold isAggT
    cases hu : P.underlying t with
    | none => simp [hu] at h
    | some e =>
      cases e <;> simp only [hu] at h ⊢ <;> try (cases h; done)
      case struct fs => exact .inl trivial
      all_goals
        split at h
        · cases h; exact .inr ⟨trivial, rfl⟩
        · cases h

theorem eq_kinds : ∀ (d : Nat) (t : TypeId) (ks : List CK), kindsOf P d t = some ks → ∀ (m : Nat) (xs ys : List PV) (us vs : List Value) (b : Bool),
    CellsRel w O μ R xs us → CellsRel w O μ R ys vs → ceqs ks xs ys = some b → ∀ u v, IsVal P t us u → IsVal P t vs v → (Op.equalIn (d + m) t u v).run P w = .ok b w := by
  intro d
  induction d with
  | zero => intro t ks h; simp [kindsOf] at h
  | succ d ih =>
    intro t ks h m xs ys us vs b hx hy hc u v hu hv
    rw [show d + 1 + m = (d + m) + 1 by omega]
    rw [kindsOf] at h
    have one : ∀ (k : CK), ks = [k] → isAggT P t = some false → ∃ x y, xs = [x] ∧ ys = [y] ∧ ceq k x y = some b ∧ Rel w O μ R x u ∧ Rel w O μ R y v := by
      intro k hk ha
      subst hk
      have hl := ceqs_len hc
      match xs, ys, hl with
      | [x], [y], _ =>
        have hu' : us = [u] := by
          rcases hu with ⟨h1, _⟩ | ⟨_, h1⟩
          · rw [ha] at h1; cases h1
          · exact h1
        have hv' : vs = [v] := by
          rcases hv with ⟨h1, _⟩ | ⟨_, h1⟩
          · rw [ha] at h1; cases h1
          · exact h1
        subst hu'
        subst hv'
        refine ⟨x, y, rfl, rfl, ?_, hx.rel 0 x u rfl rfl, hy.rel 0 y v rfl rfl⟩
        simp only [ceqs] at hc
        cases hq : ceq k x y with
        | none => simp [hq] at hc
        | some c => simp [hq] at hc; rw [hc]
    cases ht : P.underlying t with
    | none => simp [ht] at h
    | some e =>
      cases e <;> simp only [ht] at h <;> try cases h
      case int k =>
        split at h
        · cases h
          obtain ⟨x, y, rfl, rfl, hq, hxu, hyv⟩ := one (.i k) rfl (by simp [isAggT, ht])
          cases x <;> cases y <;> simp only [ceq] at hq <;> try cases hq
          cases hxu.int_inv
          cases hyv.int_inv
          split at hq
          · rename_i hk
            cases hq
            obtain ⟨rfl, rfl⟩ := hk
            simp [Op.equalIn, run_underlying ht]
          · cases hq
        · cases h
      case bool =>
        split at h
        · cases h
          obtain ⟨x, y, rfl, rfl, hq, hxu, hyv⟩ := one .b rfl (by simp [isAggT, ht])
          cases x <;> cases y <;> simp only [ceq] at hq <;> try cases hq
          cases hxu.bool_inv
          cases hyv.bool_inv
          exact run_equalIn_bool w _ t _ _ ht
        · cases h
      case string =>
        split at h
        · cases h
          obtain ⟨x, y, rfl, rfl, hq, hxu, hyv⟩ := one .s rfl (by simp [isAggT, ht])
          cases x <;> cases y <;> simp only [ceq] at hq <;> try cases hq
          cases hxu.str_inv
          cases hyv.str_inv
          rw [run_equalIn_string w _ t _ _ ht]
          simp
        · cases h
      case struct fs =>
        split at h
        · cases h
        · rename_i hst
          have ha : isAggT P t = some true := by simp [isAggT, ht]
          have hu' : u = .agg us.toArray := by
            rcases hu with ⟨_, h1⟩ | ⟨h1, _⟩
            · exact h1
            · rw [ha] at h1; cases h1
          have hv' : v = .agg vs.toArray := by
            rcases hv with ⟨_, h1⟩ | ⟨h1, _⟩
            · exact h1
            · rw [ha] at h1; cases h1
          subst hu'
          subst hv'
          have hfo : P.fieldsOf t = fs := by simp [Program.fieldsOf, ht]
          rw [run_equalIn_struct w _ t _ _ (by rw [hfo]; exact ht) (by simpa using hst), hfo]
          have inner : ∀ (l : List Field) (off : Nat) (ks : List CK) (b : Bool), kfields P d off l = some ks → ceqs ks (xs.drop off) (ys.drop off) = some b →
              (Op.eqFields (d + m) us.toArray vs.toArray l).run P w = .ok b w := by
            intro l
            induction l with
            | nil =>
              intro off ks b hk hc
              simp only [kfields, Option.some.injEq] at hk
              subst hk
              have hl := ceqs_len hc
              cases hxd : xs.drop off with
              | cons => rw [hxd] at hl; simp at hl
              | nil =>
                cases hyd : ys.drop off with
                | cons => rw [hyd] at hl; simp at hl
                | nil =>
                  rw [hxd, hyd] at hc
                  simp [ceqs] at hc
                  subst hc
                  simp [Op.eqFields]
            | cons f r ihr =>
              intro off ks b hk hc
              rw [kfields] at hk
              cases hk1 : kindsOf P d f.type with
              | none => simp [hk1] at hk
              | some k1 =>
                cases hk2 : kfields P d (off + (szT P f.type).getD 0) r with
                | none => simp [hk1, hk2] at hk
                | some k2 =>
                  simp only [hk1, hk2] at hk
                  split at hk
                  · rename_i hcond
                    obtain ⟨hname, hoff, hsz, hpos⟩ := hcond
                    cases hk
                    rw [hsz] at hk2
                    simp only [Option.getD_some] at hk2
                    obtain ⟨b1, b2, h1, h2, rfl⟩ := ceqs_append hc
                    have hl := ceqs_len hc
                    simp only [List.length_drop, List.length_append] at hl
                    have hlx := hx.len
                    have hly := hy.len
                    have hfit : off + k1.length ≤ us.length ∧ off + k1.length ≤ vs.length := by omega
                    have hag := kindsOf_agg hk1
                    obtain ⟨p, hp1, hp2⟩ := isVal_part (w := w) hsz hag us off hfit.1
                    obtain ⟨q, hq1, hq2⟩ := isVal_part (w := w) hsz hag vs off hfit.2
                    have heq := ih f.type k1 hk1 m _ _ _ _ b1 (hx.part off k1.length) (hy.part off k1.length) h1 p q hp2 hq2
                    rw [List.drop_drop, List.drop_drop] at h2
                    have hrest := ihr (off + k1.length) k2 b2 hk2 h2
                    simp only [Op.eqFields, hname, ne_eq, not_false_eq_true, if_true, Sem.run_bind, hoff, hp1, hq1, heq, Result.andThen_ok, Sem.run_ite]
                    cases b1
                    · simp
                    · simpa using hrest
                  · cases hk
          exact inner fs.toList 0 ks b h (by simpa using hc)

end
end Go.Vd
