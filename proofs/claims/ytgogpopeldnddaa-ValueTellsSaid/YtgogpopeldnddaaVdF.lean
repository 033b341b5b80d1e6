/- Each operation that writes nothing, the rest of them; and how they are compiled. -/
import Derived.Test.YtgogpopeldnddaaVdE
set_option linter.unusedVariables false
set_option linter.unusedSimpArgs false
namespace Go.Vd
open Go.RowKit

section
variable {w : World} {O : Nat → Prop} {μ : Mu} {R : Rows} {P : Program}

theorem lens_run {t ty : TypeId} (ht : P.underlying t = some .string) {x p : PV} {u : Value} (hx : Rel w O μ R x u) (h : lensv x = some p) :
    ∃ q, (Builtin.len_ #[t] ty #[u]).run P w = .ok q w ∧ Rel w O μ R p q := by
  cases x <;> simp only [lensv] at h <;> try cases h
  case str s =>
    cases hx.str_inv
    refine ⟨_, ?_, .base _ _ (.int _ _)⟩
    have hs : (⟨s.toArray⟩ : ByteArray).size = s.length := List.size_toArray
    simp [Builtin.len_, run_underlying ht, goInt, hs]

theorem lenl_run {t ty e : TypeId} (ht : P.underlying t = some (.slice e)) {x p : PV} {u : Value} (hx : Rel w O μ R x u) (h : lenlv x = some p) :
    ∃ q, (Builtin.len_ #[t] ty #[u]).run P w = .ok q w ∧ Rel w O μ R p q := by
  have key : ∀ (A : Option Addr) (n c : Nat), ∃ q, (Builtin.len_ #[t] ty #[.slice A n c]).run P w = .ok q w ∧ Rel w O μ R (.int .i64 (n : Int)) q := fun A n c =>
    ⟨.int .i64 n, by simp [Builtin.len_, run_underlying ht, goInt], .base _ _ (.int _ _)⟩
  cases x <;> simp only [lenlv] at h <;> try cases h
  case sl sz xs =>
    cases hx with | base _ _ hx => cases hx <;> exact key _ _ _
  case slr t' lo n =>
    cases hx with
    | base _ _ hx => cases hx
    | slr => exact key _ _ _
    | slr0 => exact key _ _ _
  case nl =>
    cases hx with | base _ _ hx => cases hx; exact key _ 0 _

theorem ext_run {i : Nat} {x p : PV} {u : Value} (hx : Rel w O μ R x u) (h : extv i x = some p) : ∃ q, (Instr.extract u i).run P w = .ok q w ∧ Rel w O μ R p q := by
  cases x <;> simp only [extv] at h <;> try cases h
  case tup vs =>
    obtain ⟨us, rfl, hl, hr⟩ := hx.tup_inv
    obtain ⟨hlt, _⟩ := List.getElem?_eq_some_iff.1 h
    have hu : us[i]? = some (us[i]'(by omega)) := List.getElem?_eq_getElem (by omega)
    exact ⟨us[i]'(by omega), by simp [Instr.extract, hu], hr i p _ h hu⟩

theorem fld_run {t : TypeId} {fs : Array Field} {f : Field} {k off sz : Nat} {ag : Bool} (ht : P.underlying t = some (.struct fs)) (hf : fs[k]? = some f) (ha : isAggT P f.type = some ag) (hz : szT P f.type = some sz) (ho : f.offset = off)
    {x p : PV} {u : Value} (hx : Rel w O μ R x u) (h : fldv off sz ag x = some p) : ∃ q, (Instr.field t u k).run P w = .ok q w ∧ Rel w O μ R p q := by
  subst ho
  cases x <;> simp only [fldv] at h <;> try cases h
  case agg cs =>
    obtain ⟨vs, rfl, hl, hs, hr⟩ := hx.agg_inv
    obtain ⟨v, hv, hrel⟩ := run_partv (P := P) ha hz hl hs hr h
    exact ⟨v, by simp [Instr.field, run_underlying ht, hf, asAgg, hv], hrel⟩

theorem idxs_run {t : TypeId} (ht : P.underlying t = some .string) {x y p : PV} {u v : Value} (hx : Rel w O μ R x u) (hy : Rel w O μ R y v) (h : idxsv x y = some p) :
    ∃ q, (Instr.index t u v).run P w = .ok q w ∧ Rel w O μ R p q := by
  cases x <;> cases y <;> simp only [idxsv] at h <;> try cases h
  case str.int s k i =>
    cases hx.str_inv
    cases hy.int_inv
    split at h
    · rename_i h0
      obtain ⟨b, hb, rfl⟩ := Option.map_eq_some_iff.1 h
      obtain ⟨hlt, hb'⟩ := List.getElem?_eq_some_iff.1 hb
      refine ⟨.int .u8 (b.toNat : Int), ?_, .base _ _ (.int _ _)⟩
      have hg : (⟨s.toArray⟩ : ByteArray)[i.toNat]? = some b := by
        rw [ByteArray.getElem?_lt' _ _ (by simpa [ByteArray.size] using hlt)]
        exact congrArg some (by rw [← hb']; rfl)
      simp [Instr.index, asIntOf, run_underlying ht, h0, hg]
    · cases h

theorem idxa_run {t e : TypeId} {n sz : Nat} {ag : Bool} (ht : P.underlying t = some (.array n e)) (ha : isAggT P e = some ag) (hz : szT P e = some sz) {x y p : PV} {u v : Value} (hx : Rel w O μ R x u) (hy : Rel w O μ R y v)
    (h : idxav n sz ag x y = some p) : ∃ q, (Instr.index t u v).run P w = .ok q w ∧ Rel w O μ R p q := by
  cases x <;> cases y <;> simp only [idxav] at h <;> try cases h
  case agg.int cs k i =>
    obtain ⟨vs, rfl, hl, hs, hr⟩ := hx.agg_inv
    cases hy.int_inv
    split at h
    · rename_i h0
      obtain ⟨v, hv, hrel⟩ := run_partv (P := P) ha hz hl hs hr h
      refine ⟨v, ?_, hrel⟩
      simp [Instr.index, asIntOf, run_underlying ht, h0, run_szT hz, hv]
    · cases h

/-- The bounds as the machine has them: 'c' is the capacity. -/
theorem bounds_run {isSlice : Bool} {n c : Nat} (hc : n ≤ c) {lo hi : Option PV} {l h : Nat} (hb : bounds n lo hi = some (l, h)) {ul uh : Option Value}
    (hl : ∀ p, lo = some p → ∃ u, ul = some u ∧ Rel w O μ R p u) (hl' : lo = none → ul = none) (hh : ∀ p, hi = some p → ∃ u, uh = some u ∧ Rel w O μ R p u) (hh' : hi = none → uh = none) :
    (Instr.sliceBounds isSlice n c ul uh none).run P w = .ok (l, h, c) w ∧ l ≤ h ∧ h ≤ n := by
  have sb : ∀ (k : IntKind) (i : Int) (y : Nat) (code : BoundsCode), 0 ≤ i → i ≤ y → (Instr.sliceBound (.int k i) y code).run P w = .ok i.toNat w := by
    intro k i y code h0 h1
    simp [Instr.sliceBound, asIntOf, h0, h1]
  unfold Instr.sliceBounds
  cases lo with
  | none =>
    cases hl' rfl
    cases hi with
    | none => cases hh' rfl; simp only [bounds, Option.some.injEq, Prod.mk.injEq] at hb; obtain ⟨rfl, rfl⟩ := hb; exact ⟨by simp, by omega, by omega⟩
    | some p =>
      obtain ⟨u, rfl, hr⟩ := hh p rfl
      cases p <;> simp only [bounds] at hb <;> try cases hb
      case int k i =>
        cases hr.int_inv
        split at hb
        · rename_i hc'
          simp only [Option.some.injEq, Prod.mk.injEq] at hb
          obtain ⟨rfl, rfl⟩ := hb
          exact ⟨by simp [sb k i c _ hc'.1 (by omega)], by omega, by omega⟩
        · cases hb
  | some q =>
    obtain ⟨u, rfl, hr⟩ := hl q rfl
    cases hi with
    | none =>
      cases hh' rfl
      cases q <;> simp only [bounds] at hb <;> try cases hb
      case int k i =>
        cases hr.int_inv
        split at hb
        · rename_i hc'
          simp only [Option.some.injEq, Prod.mk.injEq] at hb
          obtain ⟨rfl, rfl⟩ := hb
          exact ⟨by simp [sb k i n _ hc'.1 (by omega)], by omega, by omega⟩
        · cases hb
    | some p =>
      obtain ⟨u', rfl, hr'⟩ := hh p rfl
      cases q <;> cases p <;> simp only [bounds] at hb <;> try cases hb
      case int.int k i k' j =>
        cases hr.int_inv
        cases hr'.int_inv
        split at hb
        · rename_i hc'
          simp only [Option.some.injEq, Prod.mk.injEq] at hb
          obtain ⟨rfl, rfl⟩ := hb
          refine ⟨?_, by omega, by omega⟩
          simp [sb k' j c _ (by omega) (by omega), sb k i j.toNat _ hc'.1 (by omega)]
        · cases hb

theorem slcs_run {t : TypeId} (ht : P.underlying t = some .string) {lo hi : Option PV} {x p : PV} {u : Value} (hx : Rel w O μ R x u) (h : slcsv lo hi x = some p) {ul uh : Option Value}
    (hl : ∀ p, lo = some p → ∃ u, ul = some u ∧ Rel w O μ R p u) (hl' : lo = none → ul = none) (hh : ∀ p, hi = some p → ∃ u, uh = some u ∧ Rel w O μ R p u) (hh' : hi = none → uh = none) :
    ∃ q, (Instr.sliceAt t u ul uh none).run P w = .ok q w ∧ Rel w O μ R p q := by
  cases x <;> simp only [slcsv] at h <;> try cases h
  case str s =>
    cases hx.str_inv
    obtain ⟨⟨l, m⟩, hb, rfl⟩ := Option.map_eq_some_iff.1 h
    obtain ⟨hrun, h1, h2⟩ := bounds_run (P := P) (isSlice := false) (Nat.le_refl s.length) hb hl hl' hh hh'
    have hs : (⟨s.toArray⟩ : ByteArray).size = s.length := by simp [ByteArray.size]
    refine ⟨.string ((⟨s.toArray⟩ : ByteArray).extract l m), ?_, ?_⟩
    · rw [run_sliceAt_string _ _ _ _ _ _ ht]
      simp [Instr.slice, run_underlying ht, hs, hrun]
    · have he : (⟨s.toArray⟩ : ByteArray).extract l m = ⟨((s.take m).drop l).toArray⟩ := by
        apply ByteArray.ext
        rw [ByteArray.data_extract]
        simp [List.drop_take]
      rw [he]
      exact .base _ _ (.str _)

theorem slcl_run {t e : TypeId} {sz : Nat} (ht : P.underlying t = some (.slice e)) (hz : szT P e = some sz) (hR : RowsLie w O μ R) {lo hi : Option PV} {x p : PV} {u : Value} (hx : Rel w O μ R x u) (h : slclv R sz lo hi x = some p) {ul uh : Option Value}
    (hl : ∀ p, lo = some p → ∃ u, ul = some u ∧ Rel w O μ R p u) (hl' : lo = none → ul = none) (hh : ∀ p, hi = some p → ∃ u, uh = some u ∧ Rel w O μ R p u) (hh' : hi = none → uh = none) :
    ∃ q, (Instr.sliceAt t u ul uh none).run P w = .ok q w ∧ Rel w O μ R p q := by
  have key : ∀ (A : Option Addr) (n c l m : Nat), (Instr.sliceBounds true n c ul uh none).run P w = .ok (l, m, c) w →
      (Instr.sliceAt t (.slice A n c) ul uh none).run P w = .ok (.slice (if c = l then A else A.map (·.add (l * sz))) (m - l) (c - l)) w := by
    intro A n c l m hrun
    have : (Instr.sliceAt t (.slice A n c) ul uh none).run P w = (Instr.slice t (.slice A n c) ul uh none).run P w := by simp [Instr.sliceAt, run_underlying ht]
    rw [this]
    simp [Instr.slice, run_underlying ht, hrun, run_szT hz]
  cases x <;> simp only [slclv] at h <;> try cases h
  case nl =>
    obtain ⟨⟨l, m⟩, hb, rfl⟩ := Option.map_eq_some_iff.1 h
    cases hx with
    | base _ _ hx =>
      cases hx with
      | nl A =>
        obtain ⟨hrun, h1, h2⟩ := bounds_run (P := P) (isSlice := true) (Nat.le_refl 0) hb hl hl' hh hh'
        refine ⟨_, key A 0 0 l m hrun, ?_⟩
        have : m - l = 0 := by omega
        rw [this, Nat.zero_sub]
        exact .base _ _ (.nl _)
  case sl sz' xs =>
    split at h
    · rename_i hsz
      subst hsz
      obtain ⟨⟨l, m⟩, hb, rfl⟩ := Option.map_eq_some_iff.1 h
      cases hx with
      | base _ _ hx =>
        cases hx with
        | sl0 _ A c =>
          obtain ⟨hrun, h1, h2⟩ := bounds_run (P := P) (isSlice := true) (n := 0) (c := c) (Nat.zero_le _) (by simpa using hb) hl hl' hh hh'
          refine ⟨_, key A 0 c l m hrun, ?_⟩
          have : m - l = 0 := by omega
          rw [this]
          have hnil : (([] : List PV).take m).drop l = [] := by simp
          rw [hnil]
          exact .base _ _ (.sl0 _ _ _)
        | sl _ _ b o c V ho hx hc hz' hs h1 h2 =>
          obtain ⟨hrun, g1, g2⟩ := bounds_run (P := P) (isSlice := true) hc hb hl hl' hh hh'
          refine ⟨_, key _ _ c l m hrun, ?_⟩
          by_cases hlm : l = m
          · subst hlm
            have hnil : (xs.take l).drop l = [] := by simp
            rw [hnil, Nat.sub_self]
            exact .base _ _ (.sl0 _ _ _)
          · have hne : c ≠ l := by omega
            rw [if_neg hne]
            have hlen : ((xs.take m).drop l).length = m - l := by simp; omega
            rw [← hlen]
            simp only [Option.map_some, Addr.add_lit]
            refine .base _ _ (.sl _ _ b (o + l * sz') (c - l) (fun i j => V (l + i) j) ho (fun e => by rw [e] at hlen; simp at hlen; omega) (by omega) hz' (fun x hx => hs x (List.mem_of_mem_take (List.mem_of_mem_drop hx))) (fun i x j p hi hj => ?_) (fun i x j p hi hj => ?_))
            · rw [List.getElem?_drop, List.getElem?_take] at hi
              split at hi
              · have := h1 (l + i) x j p hi hj
                rw [Nat.add_mul] at this
                rw [show o + l * sz' + (i * sz' + j) = o + (l * sz' + i * sz' + j) by omega]
                exact this
              · cases hi
            · rw [List.getElem?_drop, List.getElem?_take] at hi
              split at hi
              · exact h2 (l + i) x j p hi hj
              · cases hi
    · cases h
  case slr t' o n =>
    cases hr : R t' with
    | none => simp [hr] at h
    | some row =>
      simp only [hr] at h
      split at h
      · rename_i hsz
        obtain ⟨⟨l, m⟩, hb, rfl⟩ := Option.map_eq_some_iff.1 h
        cases hx with
        | base _ _ h' => cases h'
        | slr _ _ _ c row' loc hr' hm hn hc hroom =>
          rw [hr] at hr'
          cases hr'
          obtain ⟨hrun, g1, g2⟩ := bounds_run (P := P) (isSlice := true) hc hb hl hl' hh hh'
          refine ⟨_, key _ _ c l m hrun, ?_⟩
          by_cases hcl : c = l
          · rw [if_pos hcl]
            have e1 : m - l = 0 := by omega
            have e2 : c - l = 0 := by omega
            rw [e1, e2]
            exact .slr0 t' (o + l) row _ hr (by omega)
          · rw [if_neg hcl]
            simp only [Option.map_some, Addr.add_lit]
            rw [show loc.base + o * row.sz + l * sz = loc.base + (o + l) * row.sz by rw [hsz, Nat.add_mul]; omega]
            refine .slr t' (o + l) (m - l) (c - l) row loc hr hm (by omega) (by omega) ?_
            rw [show o + l + (c - l) = o + c by omega]
            exact hroom
        | slr0 _ _ row' A hr' hn =>
          rw [hr] at hr'
          cases hr'
          obtain ⟨hrun, g1, g2⟩ := bounds_run (P := P) (isSlice := true) (Nat.le_refl 0) hb hl hl' hh hh'
          refine ⟨_, key A 0 0 l m hrun, ?_⟩
          have e1 : m - l = 0 := by omega
          have e2 : 0 - l = 0 := by omega
          rw [e1, e2]
          exact .slr0 t' (o + l) row _ hr (by omega)
      · cases h

theorem nck_shape {y p : PV} {u : Value} (hx : Rel w O μ R y u) (h : nckv y = some p) : y = p ∧ ((∃ a, u = .pointer (some a)) ∨ ∃ f c, u = .func (.func f) #[] c) := by
  cases y <;> simp only [nckv] at h <;> try cases h
  case ptr t i off =>
    cases hx with
    | base _ _ h' => cases h'
    | ptr => exact ⟨rfl, .inl ⟨_, rfl⟩⟩
  case ep cs => cases hx with | base _ _ h' => cases h'; exact ⟨rfl, .inl ⟨_, rfl⟩⟩
  case clo f caps =>
    cases hx with
    | base _ _ h' => cases h'; exact ⟨rfl, .inr ⟨_, _, rfl⟩⟩
    | clo => exact ⟨rfl, .inr ⟨_, _, rfl⟩⟩

theorem nck_run {o : Oper} {a : Act} {x : Operand} (ho : o.op = .nilCheck x) {y p : PV} (hx : Rel w O μ R y (a.eval x)) (h : nckv y = some p) :
    ∃ q, (execOp a.eval o).run P w = .ok (.value q) w ∧ Rel w O μ R p q := by
  obtain ⟨rfl, hu⟩ := nck_shape hx h
  refine ⟨a.eval x, ?_, hx⟩
  rcases hu with ⟨b, hb⟩ | ⟨f, c, hb⟩ <;> (simp only [execOp, ho, hb]; rfl)

theorem u8_cells {xs : List PV} (h : xs.all PV.isU8 = true) : ∃ ns : List Int, xs = ns.map (PV.int .u8) ∧ xs.map PV.byte = ns.map fun n => UInt8.ofNat n.toNat := by
  induction xs with
  | nil => exact ⟨[], rfl, rfl⟩
  | cons x r ih =>
    simp only [List.all_cons, Bool.and_eq_true] at h
    obtain ⟨ns, h1, h2⟩ := ih h.2
    have hx : ∃ n, x = .int .u8 n := by
      cases x <;> simp [PV.isU8] at h
      rename_i k n
      cases k <;> simp [PV.isU8] at h
      exact ⟨n, rfl⟩
    obtain ⟨n, rfl⟩ := hx
    exact ⟨n :: ns, by rw [h1]; rfl, by simp only [List.map_cons, h2]; rfl⟩

theorem foldl_push (l : List Int) : ∀ (s : List UInt8), l.foldl (fun r n => r.push (UInt8.ofNat n.toNat)) (⟨s.toArray⟩ : ByteArray) = ⟨(s ++ l.map fun n => UInt8.ofNat n.toNat).toArray⟩ := by
  induction l with
  | nil => intro s; simp
  | cons n l ih =>
    intro s
    simp only [List.foldl_cons, List.map_cons]
    have : (⟨s.toArray⟩ : ByteArray).push (UInt8.ofNat n.toNat) = ⟨(s ++ [UInt8.ofNat n.toNat]).toArray⟩ := by
      apply ByteArray.ext
      simp [ByteArray.push]
    rw [this, ih]
    simp

theorem cvb_run {src dst e : TypeId} (hs : P.underlying src = some (.slice e)) (hd : P.underlying dst = some .string) (he : P.underlying e = some (.int .u8)) (hR : RowsLie w O μ R)
    {x p : PV} {u : Value} (hx : Rel w O μ R x u) (h : cvbv R x = some p) : ∃ q, (convert src dst u).run P w = .ok q w ∧ Rel w O μ R p q := by
  have conv : ∀ (A : Option Addr) (n c : Nat), (convert src dst (.slice A n c)).run P w = (Conv.bytesToString (.slice A n c)).run P w := fun A n c => run_convert_bytes_string w src dst e A n c hs he hd
  have key : ∀ (ns : List Int) (b o c : Nat), (∀ j n, ns[j]? = some n → w.cell? ⟨b, o + j, none⟩ = some (.int .u8 n)) →
      ∃ q, (convert src dst (.slice (some ⟨b, o, none⟩) ns.length c)).run P w = .ok q w ∧ Rel w O μ R (.str (ns.map fun n => UInt8.ofNat n.toNat)) q := by
    intro ns b o c hc
    rw [conv]
    have hload := run_loadCells_list (P := P) w ⟨b, o, none⟩ (ns.map (Value.int .u8)) (fun j v hj => by
      rw [List.getElem?_map] at hj
      obtain ⟨n, hn, rfl⟩ := Option.map_eq_some_iff.1 hj
      rw [Addr.add_lit]
      exact hc j n hn)
    rw [List.length_map] at hload
    refine ⟨_, run_bytesToString w _ _ c ns hload, ?_⟩
    have := foldl_push ns []
    rw [show (⟨([] : List UInt8).toArray⟩ : ByteArray) = ByteArray.empty from rfl] at this
    rw [this, List.nil_append]
    exact .base _ _ (.str _)
  cases x <;> simp only [cvbv] at h <;> try cases h
  case nl =>
    cases hx with
    | base _ _ h' =>
      cases h' with
      | nl A =>
        cases A with
        | none => exact ⟨.string ByteArray.empty, by rw [conv]; simp [Conv.bytesToString], .base _ _ (.str [])⟩
        | some a =>
          refine ⟨.string ByteArray.empty, ?_, .base _ _ (.str [])⟩
          rw [conv]
          have := run_bytesToString (P := P) w a 0 0 [] (by simpa using run_loadCells_list (P := P) w a [] (fun j v hj => by simp at hj))
          simpa using this
  case sl sz xs =>
    split at h
    · rename_i hc
      obtain ⟨rfl, hall⟩ := hc
      cases h
      obtain ⟨ns, h1, h2⟩ := u8_cells hall
      rw [h2]
      cases hx with
      | base _ _ h' =>
        cases h' with
        | sl0 _ A c =>
          have hns : ns = [] := by cases ns with | nil => rfl | cons => cases h1
          subst hns
          cases A with
          | none => exact ⟨.string ByteArray.empty, by rw [conv]; simp [Conv.bytesToString], .base _ _ (.str [])⟩
          | some a =>
            refine ⟨.string ByteArray.empty, ?_, .base _ _ (.str [])⟩
            rw [conv]
            have := run_bytesToString (P := P) w a 0 c [] (by simpa using run_loadCells_list (P := P) w a [] (fun j v hj => by simp at hj))
            simpa using this
        | sl _ _ b o c V ho hx' hc' hz' hs' g1 g2 =>
          have hlen : xs.length = ns.length := by rw [h1, List.length_map]
          rw [hlen]
          refine key ns b o c fun j n hj => ?_
          have hj' : xs[j]? = some (.int .u8 n) := by rw [h1, List.getElem?_map, hj]; rfl
          have e1 := g1 j _ 0 (.int .u8 n) hj' rfl
          have e2 := g2 j _ 0 (.int .u8 n) hj' rfl
          rw [Nat.mul_one, Nat.add_zero] at e1
          rw [e1, (Rel.base (μ := μ) (R := R) _ _ e2).int_inv]
    · cases h
  case slr t lo n =>
    cases hr : R t with
    | none => simp [hr] at h
    | some row =>
      simp only [hr] at h
      split at h
      · rename_i hc
        obtain ⟨hpr, hsz, hall⟩ := hc
        cases h
        obtain ⟨ns, h1, h2⟩ := u8_cells hall
        rw [h2]
        cases hx with
        | base _ _ h' => cases h'
        | slr _ _ _ c row' l hr' hm hn hc' hroom =>
          rw [hr] at hr'
          cases hr'
          have hlen : ns.length = n := by
            have := congrArg List.length h1
            simp at this
            omega
          rw [← hlen]
          refine key ns _ _ c fun j m hj => ?_
          have hj' : ((row.cs.drop lo).take n)[j]? = some (.int .u8 m) := by rw [h1, List.getElem?_map, hj]; rfl
          rw [List.getElem?_take] at hj'
          split at hj'
          · rw [List.getElem?_drop] at hj'
            obtain ⟨v, hv, hcr⟩ := ((hR t row hr).lie l hm).cell hj' (j := 0) (p := .int .u8 m) rfl
            have := hcr.rel.int_inv
            subst this
            rw [← hv, hsz]
            congr 2
            omega
          · cases hj'
        | slr0 _ _ row' A hr' hn =>
          have hlen : ns = [] := by
            have := congrArg List.length h1
            simp at this
            exact List.eq_nil_of_length_eq_zero (by omega)
          subst hlen
          cases A with
          | none => exact ⟨.string ByteArray.empty, by rw [conv]; simp [Conv.bytesToString], .base _ _ (.str [])⟩
          | some a =>
            refine ⟨.string ByteArray.empty, ?_, .base _ _ (.str [])⟩
            rw [conv]
            have := run_bytesToString (P := P) w a 0 0 [] (by simpa using run_loadCells_list (P := P) w a [] (fun j v hj => by simp at hj))
            simpa using this
      · cases h

end
end Go.Vd
