/- A part of the proof: a logic of values, rows and steps. -/
import Derived.Test.YtgjeiamilppafaaDoorA3
import Derived.SliceStrings
import Derived.Shelf.Strings.OnBuilder
import Derived.Lib.Bytealg
import Derived.Shelf.Strconv.Itoa4
import Derived.Shelf.Strconv.ErrVarParseInt
section
set_option linter.unusedVariables false
set_option linter.unusedSimpArgs false
namespace Go.Vd
open Go.RowKit
def ofL {α : Type} : List (Nat × α) → Nat → Option α
  | [], _ => none
  | (k, v) :: r, n => bif Nat.beq n k then some v else ofL r n
def AllAt {α : Type} (f : Nat → Option α) : List (Nat × α) → Prop
  | [] => True
  | (k, v) :: r => f k = some v ∧ AllAt f r
theorem AllAt.get [Glob] {α : Type} {f : Nat → Option α} : ∀ {l : List (Nat × α)}, AllAt f l → ∀ k v, ofL l k = some v → f k = some v
  | [], _, k, v, h => by simp [ofL] at h
  | (k', v') :: r, ⟨h1, h2⟩, k, v, h => by
    unfold ofL at h
    cases hk : Nat.beq k k' with
    | true => rw [hk] at h; cases h; rw [Nat.eq_of_beq_eq_true hk]; exact h1
    | false => rw [hk] at h; exact AllAt.get h2 k v h
theorem ofL_mem [Glob] {α : Type} : ∀ {l : List (Nat × α)} {k : Nat} {v : α}, ofL l k = some v → v ∈ l.map (·.2)
  | [], k, v, h => by simp [ofL] at h
  | (k', v') :: r, k, v, h => by
    unfold ofL at h
    cases hk : Nat.beq k k' with
    | true => rw [hk] at h; cases h; simp
    | false => rw [hk] at h; simp only [List.map_cons]; exact List.mem_cons_of_mem _ (ofL_mem h)
def rowsTk (f : Nat → Bool) : List Row → Bool
  | [] => true
  | r :: rs => r.tk f && rowsTk f rs
theorem rowsTk_mem [Glob] {f : Nat → Bool} : ∀ {l : List Row}, rowsTk f l = true → ∀ r ∈ l, r.tk f = true
  | [], _, r, h => by cases h
  | x :: xs, h, r, hr => by
    rw [rowsTk, Bool.and_eq_true] at h
    rcases List.mem_cons.1 hr with e | e
    · rw [e]; exact h.1
    · exact rowsTk_mem h.2 r e
section
variable {P : Program} {T : Nat → Bool}
theorem canonL [Glob] {st : St} (l : List (Nat × PV)) (m : List (Nat × Row)) (hs : AllAt st.s l) (hr : AllAt st.r m) (h1 : PV.tks (fun t => (ofL m t).isSome) (l.map (·.2)) = true) (h2 : rowsTk (fun t => (ofL m t).isSome) (m.map (·.2)) = true)
    (hT : ∀ t, T t = true → (ofL m t).isSome = true) : Norm T st ⟨ofL l, ofL m⟩ := by
  intro w0 O L n μ a w hL h
  refine ⟨μ, h.canon (fun k p hk => ⟨hs.get k p hk, PV.tks_mem h1 p (ofL_mem hk)⟩) (fun t row ht => ⟨hr.get t row ht, rowsTk_mem h2 row (ofL_mem ht)⟩) fun t ht => hT t (hL ▸ ht)⟩
def ffs (t : Nat) (row : Row) : Nat → Nat → Nat → PV := fun u lo n => bif Nat.beq u t then .sl row.sz ((row.cs.drop lo).take n) else .slr u lo n
def PV.frz (t : Nat) (row : Row) (p : PV) : PV := p.map (ffs t row) (kfp t)
def Row.frz (t : Nat) (r : Row) (row : Row) : Row := bif r.pr then r else ⟨r.sz, r.pr, r.cs.map (PV.frz t row)⟩
def frzS (t : Nat) (row : Row) (s : Slots) : Slots := fun k => (s k).map (PV.frz t row)
def frzR (t : Nat) (row : Row) (r : Rows) : Rows := fun u => bif Nat.beq u t then none else (r u).map (fun r => r.frz t row)
theorem ffs_one (t : Nat) (row : Row) (u lo n : Nat) : (ffs t row u lo n).one = true := by unfold ffs; cases Nat.beq u t <;> rfl
theorem PV.frz_one [Glob] {t : Nat} {row : Row} {p : PV} (h : p.one = true) : (p.frz t row).one = true := PV.map_one (ffs_one t row) (kfp_one t) p h
theorem PV.frz_cells [Glob] (t : Nat) (row : Row) (p : PV) : (p.frz t row).cells = p.cells.map (PV.frz t row) := PV.map_cells (ffs_one t row) (kfp_one t) p
theorem Row.frz_sz (t : Nat) (r row : Row) : (r.frz t row).sz = r.sz := by unfold Row.frz; cases r.pr <;> rfl
theorem Row.frz_pr (t : Nat) (r row : Row) : (r.frz t row).pr = r.pr := by unfold Row.frz; cases h : r.pr <;> simp [h]
theorem Row.frz_len (t : Nat) (r row : Row) : (r.frz t row).cs.length = r.cs.length := by unfold Row.frz; cases r.pr <;> simp
theorem frzR_inv [Glob] {t u : Nat} {row : Row} {R : Rows} {r : Row} (h : frzR t row R u = some r) : u ≠ t ∧ ∃ r', R u = some r' ∧ r = r'.frz t row := by
  unfold frzR at h
  by_cases hu : u = t
  · rw [hu, beq_true] at h; cases h
  · rw [beq_false hu, cond_false] at h
    obtain ⟨r', hr, rfl⟩ := Option.map_eq_some_iff.1 h
    exact ⟨hu, r', hr, rfl⟩
theorem frzR_of [Glob] {t u : Nat} {row : Row} {R : Rows} {r : Row} (hu : u ≠ t) (h : R u = some r) : frzR t row R u = some (r.frz t row) := by
  unfold frzR
  rw [beq_false hu, cond_false, h]
  rfl
theorem StRel.freeze [Glob] {w0 w : World} {O : Nat → Prop} {L : Lent} {n : Nat} {μ : Mu} {st : St} {a : Act} (h : StRel w0 O L n μ st a w) (t : Nat) (row : Row) (ht : st.r t = some row) (hpr : row.pr = true) (hT : L.T t = false) : StRel w0 O L n μ ⟨frzS t row st.s, frzR t row st.r⟩ a w := by
  have hO : ∀ b, Av O μ (frzR t row st.r) b → Av O μ st.r b := by
    rintro b (h1 | ⟨u, r, l, h1, h2, h3⟩)
    · exact .inl h1
    · obtain ⟨hu, r', hr, rfl⟩ := frzR_inv h1
      exact .inr ⟨u, r', l, hr, h2, h3⟩
  have hown : ∀ l, μ t = some l → ¬ Av O μ (frzR t row st.r) l.b := by
    rintro l hl (h1 | ⟨u, r, l', h1, h2, h3⟩)
    · exact (h.own t row l ht hl).1 h1
    · obtain ⟨hu, r', hr, rfl⟩ := frzR_inv h1
      exact hu (h.inj u t r' row l' l hr ht h2 hl h3)
  have hR : ∀ u r, u ≠ t → st.r u = some r → ∃ r', frzR t row st.r u = some r' ∧ r'.sz = r.sz ∧ r'.cs.length = r.cs.length :=
    fun u r hu hr => ⟨_, frzR_of hu hr, Row.frz_sz _ _ _, Row.frz_len _ _ _⟩
  have key : ∀ {p : PV} {v : Value}, Rel w (Av O μ st.r) μ st.r p v → Rel w (Av O μ (frzR t row st.r)) μ (frzR t row st.r) (p.frz t row) v := by
    intro p v hp
    refine Rel.map (fs := ffs t row) (fp := kfp t) (fun _ _ _ => rfl) (fun b _ hb => hO b hb) (ffs_one t row) (kfp_one t) (fun u lo m v hv => ?_) (fun u i o v hv => ?_) hp
    · unfold ffs
      by_cases hu : u = t
      · subst hu
        rw [beq_true]
        exact .base _ _ (sub_slice h.rows ht hpr hv hO hown)
      · rw [beq_false hu]
        cases hv with
        | base _ _ h => cases h
        | slr _ _ _ c r l hr hm hn hc hroom =>
          obtain ⟨r', h2, h3, h4⟩ := hR u r hu hr
          rw [← h3]
          exact .slr u lo m c r' l h2 hm (by omega) hc (by rw [h3]; exact hroom)
        | slr0 _ _ r A hr hn =>
          obtain ⟨r', h2, h3, h4⟩ := hR u r hu hr
          exact .slr0 u lo r' A h2 (by omega)
    · unfold kfp
      by_cases hu : u = t
      · rw [hu, beq_true]
        exact .base _ _ (.any v (hv.oneCell rfl))
      · rw [beq_false hu]
        cases hv with
        | base _ _ h => cases h
        | ptr _ _ _ r l hr hm hi ho =>
          obtain ⟨r', h2, h3, h4⟩ := hR u r hu hr
          rw [← h3]
          exact .ptr u i o r' l h2 hm (by omega) (by omega)
  refine ⟨h.dfr, h.size, h.fr, h.out, fun k p hk => ?_, fun u r hr => ?_, ?_, ?_, fun u hu => ?_⟩
  · obtain ⟨q, hq, rfl⟩ := Option.map_eq_some_iff.1 hk
    obtain ⟨v, hv, hrel⟩ := h.slot k q hq
    exact ⟨v, hv, key hrel⟩
  · obtain ⟨hu, r', hr', rfl⟩ := frzR_inv hr
    have hrr := h.row u r' hr'
    refine ⟨by rw [Row.frz_sz]; exact hrr.sz, fun x hx => ?_, fun hn => ?_, fun l hl => ?_, fun k hk l hl => by
      obtain ⟨e1, arr, fz, e2, e3⟩ := hrr.ty k hk l hl
      exact ⟨e1, arr, fz, e2, by rw [Row.frz_pr, Row.frz_sz]; exact e3⟩⟩
    · rw [Row.frz_sz]
      unfold Row.frz at hx
      cases hp : r'.pr with
      | true => rw [hp, cond_true] at hx; exact hrr.el x hx
      | false =>
        rw [hp, cond_false] at hx
        obtain ⟨y, hy, rfl⟩ := List.mem_map.1 hx
        obtain ⟨h1, h2⟩ := hrr.el y hy
        rw [PV.frz_cells]
        refine ⟨by simpa using h1, fun p hp' => ?_⟩
        obtain ⟨q, hq, rfl⟩ := List.mem_map.1 hp'
        exact PV.frz_one (h2 q hq)
    · have := hrr.non hn
      have hl := Row.frz_len t r' row
      rw [this] at hl
      exact List.eq_nil_of_length_eq_zero (by simpa using hl)
    · obtain ⟨arr, ety, fz, h1, h2, h3, h4, h5⟩ := hrr.lie l hl
      refine ⟨arr, ety, fz, h1, h2, by rw [Row.frz_len, Row.frz_sz]; exact h3, h4, fun i x j p hi hj => ?_⟩
      rw [Row.frz_sz, Row.frz_pr]
      unfold Row.frz at hi
      cases hp : r'.pr with
      | true =>
        rw [hp, cond_true] at hi
        obtain ⟨v, hv, hc⟩ := h5 i x j p hi hj
        refine ⟨v, hv, ?_⟩
        rw [hp] at hc
        unfold CellRel at hc ⊢
        rw [if_pos rfl] at hc ⊢
        exact hc.frame (fun _ _ _ => rfl) (fun b _ hb => hO b hb)
      | false =>
        rw [hp, cond_false] at hi
        rw [List.getElem?_map] at hi
        obtain ⟨y, hy, rfl⟩ := Option.map_eq_some_iff.1 hi
        rw [PV.frz_cells, List.getElem?_map] at hj
        obtain ⟨q, hq, rfl⟩ := Option.map_eq_some_iff.1 hj
        obtain ⟨v, hv, hc⟩ := h5 i y j q hy hq
        refine ⟨v, hv, ?_⟩
        rw [hp] at hc
        unfold CellRel at hc ⊢
        rw [if_neg (by simp)] at hc ⊢
        exact key hc
  · intro u u' r r' l l' h1 h2 h3 h4 h5
    obtain ⟨_, s, hs, _⟩ := frzR_inv h1
    obtain ⟨_, s', hs', _⟩ := frzR_inv h2
    exact h.inj u u' s s' l l' hs hs' h3 h4 h5
  · intro u r l h1 h2
    obtain ⟨_, s, hs, _⟩ := frzR_inv h1
    exact h.own u s l hs h2
  · obtain ⟨h1, r, h2⟩ := h.keep u hu
    have hne : u ≠ t := fun e => by rw [e, hT] at hu; cases hu
    exact ⟨h1, _, frzR_of hne h2⟩
theorem freeze [Glob] {st : St} (t : Nat) (row : Row) (ht : st.r t = some row) (hpr : row.pr = true) (hT : T t = false) : Norm T st ⟨frzS t row st.s, frzR t row st.r⟩ := by
  intro w0 O L n μ a w hL h
  exact ⟨μ, h.freeze t row ht hpr (hL ▸ hT)⟩
theorem ofL_some [Glob] {α : Type} : ∀ {l : List (Nat × α)} {k : Nat} {v : α}, (k, v) ∈ l → ∃ u, ofL l k = some u
  | [], k, v, h => by cases h
  | (k', v') :: r, k, v, h => by
    unfold ofL
    cases hk : Nat.beq k k' with
    | true => exact ⟨v', rfl⟩
    | false =>
      rcases List.mem_cons.1 h with e | e
      · cases e; rw [beq_true] at hk; cases hk
      · exact ofL_some e
theorem AllAt.mem [Glob] {α : Type} {f : Nat → Option α} : ∀ {l : List (Nat × α)}, AllAt f l → ∀ k v, (k, v) ∈ l → f k = some v
  | [], _, k, v, h => by cases h
  | (k', v') :: r, ⟨h1, h2⟩, k, v, h => by
    rcases List.mem_cons.1 h with e | e
    · cases e; exact h1
    · exact AllAt.mem h2 k v e
theorem AllAt.of [Glob] {α : Type} {f : Nat → Option α} : ∀ {l : List (Nat × α)}, (∀ k v, (k, v) ∈ l → f k = some v) → AllAt f l
  | [], _ => trivial
  | (k, v) :: r, h => ⟨h k v (by simp), AllAt.of fun k' v' h' => h k' v' (by simp [h'])⟩
theorem AllAt.own [Glob] {α : Type} {f : Nat → Option α} {l : List (Nat × α)} (h : AllAt f l) : AllAt (ofL l) l := by
  refine AllAt.of fun k v hm => ?_
  obtain ⟨u, hu⟩ := ofL_some hm
  rw [hu, ← h.get k u hu, h.mem k v hm]
theorem canon0 [Glob] {st : St} {l : List (Nat × PV)} {m : List (Nat × Row)} (hs : AllAt st.s l) (hr : AllAt st.r m) (h1 : PV.tks (fun t => (ofL m t).isSome) (l.map (·.2)) = true) (h2 : rowsTk (fun t => (ofL m t).isSome) (m.map (·.2)) = true) : Norm (fun _ => false) st ⟨ofL l, ofL m⟩ :=
  canonL (T := fun _ => false) l m hs hr h1 h2 nofun
end
end Go.Vd
end
section
set_option linter.unusedVariables false
set_option linter.unusedSimpArgs false
namespace Go.Vd
open Go.RowKit
def byte (n : Int) : UInt8 := UInt8.ofNat (n % 256).toNat
theorem byte_toNat (n : Int) : ((byte n).toNat : Int) = n % 256 := by
  unfold byte
  rw [UInt8.toNat_ofNat']
  have h1 := Int.emod_nonneg n (show (256 : Int) ≠ 0 by decide)
  have h2 := Int.emod_lt_of_pos n (show (0 : Int) < 256 by decide)
  omega
theorem u8_wrap [Glob] (n : Int) : IntKind.u8.wrap n = ((byte n).toNat : Int) := by
  rw [byte_toNat]
  simp [IntKind.wrap, IntKind.bits, IntKind.signed]
theorem i64_wrap {n : Int} (h1 : -9223372036854775808 ≤ n) (h2 : n < 9223372036854775808) : IntKind.i64.wrap n = n := by
  change (if (true && decide (n % 18446744073709551616 ≥ 9223372036854775808)) = true then n % 18446744073709551616 - 18446744073709551616 else n % 18446744073709551616) = n
  simp only [Bool.true_and, decide_eq_true_eq]
  split <;> omega
theorem u64_wrap {n : Int} (h1 : 0 ≤ n) (h2 : n < 18446744073709551616) : IntKind.u64.wrap n = n := by
  change (if (false && decide (n % 18446744073709551616 ≥ 9223372036854775808)) = true then n % 18446744073709551616 - 18446744073709551616 else n % 18446744073709551616) = n
  rw [Bool.false_and, if_neg (by simp)]
  exact Int.emod_eq_of_lt h1 h2
theorem vs {a b : List UInt8} (h : a = b) : some (PV.str a) = some (PV.str b) := by rw [h]
theorem bytesP_byte (l : List UInt8) : (bytesP l).map PV.byte = l := by
  induction l with
  | nil => rfl
  | cons x r ih =>
    simp only [bytesP, List.map_cons, PV.byte, List.cons.injEq] at ih ⊢
    refine ⟨?_, ih⟩
    simp
end Go.Vd
end
section
set_option linter.unusedVariables false
set_option linter.unusedSimpArgs false
namespace Go.Vd
open Go.RowKit
section
variable {P : Program} {T : Nat → Bool} {d : Option Nat} {st : St}
end
theorem noOwn {μ : Mu} {b : Nat} (h : Owned μ noRows b) : False := by
  obtain ⟨t, row, l, h1, _⟩ := h
  simp [noRows] at h1
theorem Sat.below [Glob] {P : Program} {f : FuncId} {ps : List PV} (h : Sat P f noRows ps (.bool true) noRows) {W : World} {vs : List Value} (hargs : CellsRel W (fun _ => False) (fun _ => none) noRows ps vs) (hok : Glob.ok W) :
    Calls P f vs.toArray W fun e W' => e = .returned (.bool true) ∧ Below W.heap.size W W' := by
  have hav : ∀ (μ : Mu) b, Av (fun _ => False) μ noRows b → False := fun μ b hb => hb.elim id noOwn
  refine (h (fun _ => False) (fun _ => none) W vs ⟨fun b hb => hb.elim, hok⟩ ⟨fun t row ht => by simp [noRows] at ht, fun t t' row row' l l' ht => by simp [noRows] at ht, fun t row l ht => by simp [noRows] at ht⟩ ⟨hargs.len, fun j p v hj hv => ?_⟩).mono ?_
  · exact (hargs.rel j p v hj hv).mono (fun _ => true) (fun _ _ _ => rfl) (fun b _ hb => (hav _ b hb).elim) (fun t row _ ht => by simp [noRows] at ht) (PV.tk_true _)
  · rintro e w' ⟨v, μ', rfl, hfr, _, _, _, hr⟩
    have := hr.bool_inv
    subst this
    exact ⟨rfl, hfr.os, hfr.tape, hfr.output, hfr.size, fun b hb => hfr.block b hb noOwn⟩
theorem cells_nil {W : World} : CellsRel W (fun _ => False) (fun _ => none) noRows [] [] := ⟨rfl, fun j p v hj => by simp at hj⟩
theorem cells_cons {W : World} {p : PV} {v : Value} {ps : List PV} {vs : List Value} (h : Rel0 W (fun _ => False) p v) (k : CellsRel W (fun _ => False) (fun _ => none) noRows ps vs) : CellsRel W (fun _ => False) (fun _ => none) noRows (p :: ps) (v :: vs) := by
  refine ⟨by simp [k.len], fun j q u hj hu => ?_⟩
  cases j with
  | zero => simp at hj hu; subst hj; subst hu; exact .base _ _ h
  | succ j => exact k.rel j q u (by simpa using hj) (by simpa using hu)
end Go.Vd
end
section
set_option linter.unusedVariables false
set_option linter.unusedSimpArgs false
namespace Go.Vd
open Go.RowKit
theorem rel_str {w : World} {O : Nat → Prop} (s : ByteArray) : Rel0 w O (.str s.data.toList) (.string s) := by
  have h := Rel0.str (w := w) (O := O) s.data.toList
  rwa [ba_mk] at h
end Go.Vd
end
section
set_option linter.unusedVariables false
set_option linter.unusedSimpArgs false
namespace Go.Vd
open Go.RowKit
def PV.lit : PV → Option Value
  | .int k n => some (.int k n)
  | .bool b => some (.bool b)
  | .str s => some (.string ⟨s.toArray⟩)
  | _ => none
def lits : List PV → Option (List Value)
  | [] => some []
  | p :: r => match p.lit, lits r with
    | some v, some q => some (v :: q)
    | _, _ => none
theorem lit_rel {w : World} {O : Nat → Prop} {p : PV} {v : Value} (h : p.lit = some v) : Rel0 w O p v := by
  cases p <;> simp only [PV.lit] at h <;> first | (cases h; done) | (cases h; first | exact .int _ _ | exact .bool _ | exact .str _)
theorem lit_inv [Glob] {w : World} {O : Nat → Prop} {μ : Mu} {R : Vd.Rows} {p : PV} {u v : Value} (h : p.lit = some v) (hr : Rel w O μ R p u) : u = v := by
  cases p <;> simp only [PV.lit] at h <;> first | (cases h; done) | (cases h; first | exact hr.int_inv | exact hr.bool_inv | exact hr.str_inv)
theorem lits_inv [Glob] {w : World} {O : Nat → Prop} {μ : Mu} {R : Vd.Rows} : ∀ {ps : List PV} {us vs : List Value}, lits ps = some vs → CellsRel w O μ R ps us → us = vs
  | [], us, vs, h, hr => by
    simp only [lits, Option.some.injEq] at h
    subst h
    have := hr.len
    exact List.eq_nil_of_length_eq_zero (by simpa using this)
  | p :: r, us, vs, h, hr => by
    simp only [lits] at h
    split at h
    · rename_i v q hv hq
      cases h
      cases us with
      | nil => have := hr.len; simp at this
      | cons u us =>
        have h1 : u = v := lit_inv hv (hr.rel 0 p u rfl rfl)
        have h2 : us = q := lits_inv hq ⟨by have := hr.len; simpa using this, fun j p' v' hj hv' => hr.rel (j + 1) p' v' (by simpa using hj) (by simpa using hv')⟩
        rw [h1, h2]
    · cases h
theorem sat_lib [Glob] {P : Program} {f : FuncId} {ps : List PV} {vs : List Value} {res : PV} {v : Value} (hps : lits ps = some vs) (hres : ∀ (w : World) (O : Nat → Prop), Rel0 w O res v) (h : ∀ w, Calls P f vs.toArray w fun e w' => e = .returned v ∧ Below w.heap.size w w') : Sat P f noRows ps res noRows := by
  intro O μ w us hO hin hargs
  have e := lits_inv hps hargs
  subst e
  refine (h w).mono ?_
  rintro e w' ⟨rfl, hb⟩
  refine ⟨v, μ, rfl, ⟨hb.os, hb.tape, hb.output, hb.size, fun b hlt _ => hb.block b hlt⟩, ⟨fun t row ht => by simp [noRows] at ht, fun t t' row row' l l' ht => by simp [noRows] at ht, fun t row l ht => by simp [noRows] at ht⟩,
    fun t row ht => by simp [noRows] at ht, fun t row l ht => by simp [noRows] at ht, .base _ _ (hres _ _)⟩
theorem sat_lib1 [Glob] {P : Program} {f : FuncId} {ps : List PV} {vs : List Value} {res : PV} {v : Value} (hps : lits ps = some vs) (hres : res.lit = some v) (h : ∀ w, Calls P f vs.toArray w fun e w' => e = .returned v ∧ w' = w) : Sat P f noRows ps res noRows :=
  sat_lib hps (fun w O => lit_rel hres) fun w => (h w).mono fun e w' ⟨h1, h2⟩ => ⟨h1, by rw [h2]; exact .refl _ _⟩
end Go.Vd
end
section
set_option linter.unusedVariables false
set_option linter.unusedSimpArgs false
namespace Go.Vd
open Go.RowKit
section
variable {P : Program} {T : Nat → Bool}
end
def PV.same : PV → PV → Bool
  | .int k a, .int l b => decide (k = l) && decide (a = b)
  | .bool a, .bool b => a == b
  | .str a, .str b => decide (a = b)
  | _, _ => false
end Go.Vd
end
section
set_option linter.unusedVariables false
set_option linter.unusedSimpArgs false
namespace Go.Vd
open Go.RowKit
def idxL {α : Type} (l : List α) (i : Int) : Option α := if 0 ≤ i then l[i.toNat]? else none
def chkI (i : Int) (n : Nat) : Option Nat := if 0 ≤ i ∧ i < (n : Int) then some i.toNat else none
def takeL {α : Type} (l : List α) (hi : Int) : Option (List α) := if 0 ≤ hi ∧ hi ≤ (l.length : Int) then some (l.take hi.toNat) else none
def dropL {α : Type} (l : List α) (lo : Int) : Option (List α) := if 0 ≤ lo ∧ lo ≤ (l.length : Int) then some (l.drop lo.toNat) else none
def catS (a b : List UInt8) : Option (List UInt8) := if a.length + b.length ≤ 9223372036854775807 then some (a ++ b) else none
def nz (b : Int) : Option Unit := if b = 0 then none else some ()
def w64 (n : Int) : Int := IntKind.i64.wrap n
def mx (a b : Int) : Int := if b > a then b else a
def mn (a b : Int) : Int := if b < a then b else a
def eb (b : UInt8) : PV := .int .u8 (b.toNat : Int)
def ei (n : Int) : PV := .int .i64 n
def es {α : Type} (sz : Nat) (f : α → PV) (l : List α) : PV := .sl sz (l.map f)
theorem bindS {α β : Type} {x : Option α} {f : α → Option β} {r : β} (h : Option.bind x f = some r) : ∃ a, x = some a ∧ f a = some r := Option.bind_eq_some_iff.1 h
theorem bifS {α : Type} {c : Bool} {x y : Option α} {r : α} (h : (bif c then x else y) = some r) : (c = true ∧ x = some r) ∨ (c = false ∧ y = some r) := by
  cases c
  · exact .inr ⟨rfl, h⟩
  · exact .inl ⟨rfl, h⟩
theorem someS {α : Type} {a r : α} (h : some a = some r) : a = r := Option.some.inj h
section
variable {P : Program} {T : Nat → Bool}
def WX [Glob] (P : Program) (T : Nat → Bool) (c : IC) (st : St) (Q : Xt → St → Prop) : Prop := ∃ e st', Ex P T c st e st' ∧ Q e st'
theorem xseq [Glob] {a b : IC} {st : St} {Q : Xt → St → Prop} (h : WX P T a st (After (fun s => WX P T b s Q) Q)) : WX P T (.seq a b) st Q := by
  obtain ⟨e, s, h1, h2⟩ := h
  cases e with
  | normal => obtain ⟨e2, s2, h3, h4⟩ := h2; exact ⟨e2, s2, .seq h1 h3, h4⟩
  | exit i => exact ⟨_, _, .seqx h1 (by simp), h2⟩
  | ret => exact ⟨_, _, .seqx h1 (by simp), h2⟩
theorem xreg [Glob] {ios : List Ins} {st : St} {Q : Xt → St → Prop} (h : Wr P T ios st (fun s => Q .normal s)) : WX P T (.reg ios) st Q := by
  obtain ⟨s, h1, h2⟩ := Wr.ex h
  exact ⟨_, _, .reg h1, h2⟩
theorem xregd [Glob] {m : Nat} {ios : List Ins} {st : St} {Q : Xt → St → Prop} (h : Wr0 P (ios.take m) st (fun fin => Wr P T (ios.drop m) fin (fun s => Q .normal s))) : WX P T (.regd m ios) st Q := by
  obtain ⟨fin, h1, h2⟩ := Wr0.steps h
  obtain ⟨s, h3, h4⟩ := Wr.ex h2
  exact ⟨_, _, .regd h1 h3, h4⟩
theorem xcT [Glob] {c : Opd} {a b : IC} {st : St} {Q : Xt → St → Prop} {t : Bool} (hc : c.ev st.s = some (.bool t)) (ht : t = true) (h : WX P T a st Q) : WX P T (.cond c a b) st Q := by
  obtain ⟨e, s, h1, h2⟩ := h
  subst ht
  exact ⟨e, s, .cond true hc h1, h2⟩
theorem xcF [Glob] {c : Opd} {a b : IC} {st : St} {Q : Xt → St → Prop} {t : Bool} (hc : c.ev st.s = some (.bool t)) (ht : t = false) (h : WX P T b st Q) : WX P T (.cond c a b) st Q := by
  obtain ⟨e, s, h1, h2⟩ := h
  subst ht
  exact ⟨e, s, .cond false hc h1, h2⟩
theorem xblk [Glob] {id : Nat} {b : IC} {st : St} {Q : Xt → St → Prop} (h : WX P T b st (fun e s => Q (e.blk id) s)) : WX P T (.block id b) st Q := by
  obtain ⟨e, s, h1, h2⟩ := h
  exact ⟨_, _, .block h1, h2⟩
theorem xexit [Glob] {id : Nat} {st : St} {Q : Xt → St → Prop} (h : Q (.exit id) st) : WX P T (.exit id) st Q := ⟨_, _, .exit, h⟩
theorem xret [Glob] {st : St} {Q : Xt → St → Prop} (h : Q .ret st) : WX P T .ret st Q := ⟨_, _, .ret, h⟩
theorem xskip [Glob] {st : St} {Q : Xt → St → Prop} (h : Q .normal st) : WX P T .skip st Q := ⟨_, _, .skip, h⟩
theorem xnorm [Glob] {c : IC} {st st1 : St} {Q : Xt → St → Prop} (hn : Norm T st st1) (h : WX P T c st1 Q) : WX P T c st Q := by
  obtain ⟨e, s, h1, h2⟩ := h
  exact ⟨e, s, .norm hn h1, h2⟩
theorem xmono [Glob] {c : IC} {st : St} {Q Q' : Xt → St → Prop} (h : WX P T c st Q) (k : ∀ e s, Q e s → Q' e s) : WX P T c st Q' := by
  obtain ⟨e, s, h1, h2⟩ := h
  exact ⟨e, s, h1, k e s h2⟩
theorem xexitn [Glob] {id : Nat} {st st1 : St} {Q : Xt → St → Prop} (hn : Norm T st st1) (h : Q (.exit id) st1) : WX P T (.exit id) st Q := ⟨_, _, .normr .exit hn, h⟩
theorem xretn [Glob] {st st1 : St} {Q : Xt → St → Prop} (hn : Norm T st st1) (h : Q .ret st1) : WX P T .ret st Q := ⟨_, _, .normr .ret hn, h⟩
theorem xjoin [Glob] {α : Type} (S : α → St) (p : α → Prop) {a b : IC} {st : St} {Q : Xt → St → Prop} (hb : ∀ x, p x → WX P T b (S x) Q) (ha : WX P T a st (After (fun s => ∃ x, Norm T s (S x) ∧ p x) Q)) : WX P T (.seq a b) st Q := by
  refine xseq (xmono ha ?_)
  intro e s h
  cases e with
  | normal => obtain ⟨x, hn, hp⟩ := h; exact xnorm hn (hb x hp)
  | exit i => exact h
  | ret => exact h
theorem xloop [Glob] {α β : Type} {b : IC} (S : α → St) (Qx : β → Xt → St → Prop) (L : Nat → α → Option β) (B : (α → Option β) → α → Option β) (h0 : ∀ x, L 0 x = none) (hs : ∀ n x, L (n + 1) x = B (L n) x)
    (hb : ∀ (rec : α → Option β) (x : α) (y : β), B rec x = some y → WX P T b (S x) (After (fun s => ∃ x', Norm T s (S x') ∧ rec x' = some y) (Qx y))) :
    ∀ (n : Nat) (x : α) (y : β), L n x = some y → WX P T (.loop b) (S x) (Qx y) := by
  intro n
  induction n with
  | zero => intro x y h; rw [h0] at h; cases h
  | succ n ih =>
    intro x y h
    rw [hs] at h
    obtain ⟨e, s, h1, h2⟩ := hb _ x y h
    cases e with
    | normal =>
      obtain ⟨x', hn, hr⟩ := h2
      obtain ⟨e2, s2, h3, h4⟩ := ih x' y hr
      exact ⟨e2, s2, .loop h1 (.norm hn h3), h4⟩
    | exit i => exact ⟨_, _, .loopx h1 (by simp), h2⟩
    | ret => exact ⟨_, _, .loopx h1 (by simp), h2⟩
theorem xloopU [Glob] {b : IC} {st st1 : St} {Q Q' : Xt → St → Prop} (hn : Norm T st st1) (h : WX P T (.loop b) st1 Q) (k : ∀ e s, Q e s → Q' e s) : WX P T (.loop b) st Q' := xnorm hn (xmono h k)
theorem xsat [Glob] (hm : P.follows .mixedOrders = true) {f : FuncId} {fn : Func} {n : Nat} {code : IC} {rv : List IRes} (hf : P.funcs[f]? = some fn) (hc : cfunc P fn = some ⟨n, code, rv⟩) {ps rs : List PV} {res : PV} (hr : resOf rs = res) (hlen : Nat.ble ps.length n = true)
    (h : WX P (fun _ => false) code ⟨s0 n ps, noRows⟩ fun e st' => (∀ id, e ≠ .exit id) ∧ gets st' rv = some rs ∧ PV.tks (fun _ => false) rs = true) : Sat P f noRows ps res noRows := by
  obtain ⟨e, s, h1, h2, h3, h4⟩ := h
  subst hr
  exact sat_fn hm hf hc (Nat.le_of_ble_eq_true hlen) h1 h2 h3 h4 (fun t row h => by simp [noRows] at h) (fun t row h => by simp [noRows] at h)
theorem xsatR [Glob] (hm : P.follows .mixedOrders = true) {f : FuncId} {fn : Func} {n : Nat} {code : IC} {rv : List IRes} (hf : P.funcs[f]? = some fn) (hc : cfunc P fn = some ⟨n, code, rv⟩) {ps rs : List PV} {res : PV} {m : List (Nat × Row)} (hr : resOf rs = res) (hlen : Nat.ble ps.length n = true)
    (h : WX P (fun _ => false) code ⟨s0 n ps, noRows⟩ fun e st' => (∀ id, e ≠ .exit id) ∧ gets st' rv = some rs ∧ PV.tks (fun t => (ofL m t).isSome) rs = true ∧ AllAt st'.r m ∧ rowsTk (fun t => (ofL m t).isSome) (m.map (·.2)) = true) : Sat P f noRows ps res (ofL m) := by
  obtain ⟨e, s, h1, h2, h3, h4, h5, h6⟩ := h
  subst hr
  exact sat_fn hm hf hc (Nat.le_of_ble_eq_true hlen) h1 h2 h3 h4 (fun t row ht => ⟨h5.get t row ht, rowsTk_mem h6 row (ofL_mem ht)⟩) (fun t row h => by simp [noRows] at h)
theorem wdN [Glob] {d : Option Nat} {op : IOp} {g : Option (Nat × Bool)} {r : List Ins} {st : St} {K : St → Prop} {p : PV} {N : Rows} (hg : gok st.s g = some true) (h : PurS P op st.s st.r p N) (hn : ∀ t row, N t = some row → st.r t = none)
    (k : Wr0 P r (St.put ⟨st.s, mrg N st.r⟩ d p) K) : Wr0 P (⟨d, op, g⟩ :: r) st K := .inl ⟨hg, p, N, h, hn, k⟩
theorem wdp [Glob] {d : Option Nat} {op : IOp} {g : Option (Nat × Bool)} {r : List Ins} {st : St} {K : St → Prop} {p : PV} (hg : gok st.s g = some true) (h : pop st.s st.r op = some p) (k : Wr0 P r (st.put d p) K) : Wr0 P (⟨d, op, g⟩ :: r) st K := by
  refine wdN hg (.pop h) no_fresh ?_
  rw [mrg_no]
  exact k
def Sub (p q : PV) : Prop := ∀ (w : World) (O : Nat → Prop) (μ : Mu) (R : Rows) (v : Value), Rel w O μ R p v → Rel w O μ R q v
theorem sub_rfl {p : PV} : Sub p p := fun _ _ _ _ _ h => h
theorem sub_nl (sz : Nat) : Sub .nl (.sl sz []) := by
  intro w O μ R v h
  cases h with | base _ _ h => cases h with | nl => exact .base _ _ (.sl0 sz none 0)
inductive Subs : List PV → List PV → Prop
  | nil : Subs [] []
  | cons {p q : PV} {l m : List PV} (h : Sub p q) (k : Subs l m) : Subs (p :: l) (q :: m)
theorem Subs.len {l m : List PV} (h : Subs l m) : l.length = m.length := by
  induction h with
  | nil => rfl
  | cons _ _ ih => simp [ih]
theorem Subs.get {l m : List PV} (h : Subs l m) : ∀ (j : Nat) (q : PV), m[j]? = some q → ∃ p, l[j]? = some p ∧ Sub p q := by
  induction h with
  | nil => intro j q hj; simp at hj
  | cons h k ih =>
    intro j q hj
    cases j with
    | zero => simp at hj; subst hj; exact ⟨_, rfl, h⟩
    | succ j => simpa using ih j q (by simpa using hj)
theorem nsub [Glob] (k : Nat) {p q : PV} {st : St} (hs : Sub p q) (hk : st.s k = some p) : Norm T st ⟨upd st.s k (some q), st.r⟩ := by
  intro w0 O L n μ a w hL h
  refine ⟨μ, h.dfr, h.size, h.fr, h.out, fun j r hj => ?_, h.row, h.inj, h.own, h.keep⟩
  by_cases hjk : j = k
  · subst hjk
    simp only [upd_same, Option.some.injEq] at hj
    subst hj
    obtain ⟨v, hv, hr⟩ := h.slot j p hk
    exact ⟨v, hv, hs _ _ _ _ _ hr⟩
  · simp only [upd_ne _ _ hjk] at hj
    exact h.slot j r hj
theorem Sat.subs [Glob] {P : Program} {f : FuncId} {Ri Ro : Rows} {ps qs : List PV} {res : PV} (h : Sat P f Ri qs res Ro) (hs : Subs ps qs) : Sat P f Ri ps res Ro := by
  intro O μ w vs hO hin hargs
  refine h O μ w vs hO hin ⟨hargs.len.trans hs.len, fun j q u hj hu => ?_⟩
  obtain ⟨p, hp, hsub⟩ := hs.get j q hj
  exact hsub _ _ _ _ _ (hargs.rel j p u hp hu)
end
end Go.Vd
end
section
set_option linter.unusedVariables false
set_option linter.unusedSimpArgs false
namespace Go.Vd
open Go.RowKit
section
variable {s : Slots} {R : Rows} {α : Type}
theorem idxL_inv {l : List α} {i : Int} {x : α} (h : idxL l i = some x) : 0 ≤ i ∧ l[i.toNat]? = some x := by
  unfold idxL at h
  split at h
  · exact ⟨by assumption, h⟩
  · cases h
theorem takeL_inv {l r : List α} {hi : Int} (h : takeL l hi = some r) : 0 ≤ hi ∧ hi ≤ (l.length : Int) ∧ l.take hi.toNat = r := by
  unfold takeL at h
  split at h
  · rename_i h1
    exact ⟨h1.1, h1.2, by simpa using h⟩
  · cases h
theorem dropL_inv {l r : List α} {lo : Int} (h : dropL l lo = some r) : 0 ≤ lo ∧ lo ≤ (l.length : Int) ∧ l.drop lo.toNat = r := by
  unfold dropL at h
  split at h
  · rename_i h1
    exact ⟨h1.1, h1.2, by simpa using h⟩
  · cases h
theorem chkI_inv {i : Int} {n k : Nat} (h : chkI i n = some k) : 0 ≤ i ∧ k < n ∧ i.toNat = k := by
  unfold chkI at h
  split at h
  · rename_i h1
    have : i.toNat = k := by simpa using h
    exact ⟨h1.1, by omega, this⟩
  · cases h
theorem catS_inv {a b r : List UInt8} (h : catS a b = some r) : a.length + b.length ≤ 9223372036854775807 ∧ a ++ b = r := by
  unfold catS at h
  split at h
  · exact ⟨by assumption, by simpa using h⟩
  · cases h
theorem nz_inv {b : Int} {u : Unit} (h : nz b = some u) : b ≠ 0 := by
  intro e
  unfold nz at h
  rw [if_pos e] at h
  cases h
theorem p_take [Glob] {x b : Opd} {l r : List UInt8} {k : IntKind} {hi : Int} (h : takeL l hi = some r) (hx : x.ev s = some (.str l)) (hb : b.ev s = some (.int k hi)) : pop s R (.slcs x none (some b)) = some (.str r) := by
  obtain ⟨h1, h2, rfl⟩ := takeL_inv h
  simp only [pop, evO, hx, hb, Option.map_some, Option.bind_some, slcsv, bounds]
  rw [if_pos ⟨h1, h2⟩]
  rfl
theorem p_drop [Glob] {x a : Opd} {l r : List UInt8} {k : IntKind} {lo : Int} (h : dropL l lo = some r) (hx : x.ev s = some (.str l)) (ha : a.ev s = some (.int k lo)) : pop s R (.slcs x (some a) none) = some (.str r) := by
  obtain ⟨h1, h2, rfl⟩ := dropL_inv h
  simp only [pop, evO, hx, ha, Option.map_some, Option.bind_some, slcsv, bounds]
  rw [if_pos ⟨h1, h2⟩]
  simp
theorem p_cat [Glob] {x y : Opd} {a b r : List UInt8} (h : catS a b = some r) (hx : x.ev s = some (.str a)) (hy : y.ev s = some (.str b)) : pop s R (.bin .add x y) = some (.str r) := by
  obtain ⟨h1, rfl⟩ := catS_inv h
  simp only [pop, hx, hy, opt2, binv, isShift, sbin]
  rw [if_pos h1]
  simp
theorem p_lens {x : Opd} {sz : Nat} {f : α → PV} {l : List α} (hx : x.ev s = some (.sl sz (l.map f))) : pop s R (.len false x) = some (.int .i64 (l.length : Int)) := by
  simp only [pop, hx, Option.bind_some, lenv, cond_false, lenlv, List.length_map]
theorem p_ixs [Glob] {x y : Opd} {sz : Nat} {f : α → PV} {l : List α} {k : IntKind} {i : Int} {e : α} {cs : List PV} (h : idxL l i = some e) (hx : x.ev s = some (.sl sz (l.map f))) (hy : y.ev s = some (.int k i)) (hc : (f e).cells = cs) : pop s R (.ixp sz x y) = some (.ep cs) := by
  obtain ⟨h0, h1⟩ := idxL_inv h
  simp only [pop, hx, hy, opt2, ixpv]
  rw [if_pos ⟨trivial, h0⟩, List.getElem?_map, h1]
  simp [hc]
theorem all_u8 (l : List UInt8) : (l.map eb).all PV.isU8 = true := by simp [eb, PV.isU8]
theorem map_byte [Glob] (l : List UInt8) : (l.map eb).map PV.byte = l := bytesP_byte l
theorem full_row {f : α → PV} {l : List α} : ((l.map f).drop 0).take l.length = l.map f := by
  rw [List.drop_zero]
  exact List.take_of_length_le (by simp)
theorem take_row [Glob] {f : α → PV} {l r : List α} {hi : Int} (h : takeL l hi = some r) : ((l.map f).drop 0).take hi.toNat = r.map f := by
  obtain ⟨_, _, rfl⟩ := takeL_inv h
  rw [List.drop_zero, List.map_take]
theorem p_ixr [Glob] {x y : Opd} {sz n t : Nat} {k : IntKind} {i : Int} {j : Nat} {row : Row} (h : chkI i n = some j) (hx : x.ev s = some (.slr t 0 n)) (hy : y.ev s = some (.int k i)) (hr : R t = some row) (hs : row.sz = sz) : pop s R (.ixp sz x y) = some (.ptr t j 0) := by
  obtain ⟨h0, h1, rfl⟩ := chkI_inv h
  simp only [pop, hx, hy, opt2, ixpv, hr]
  rw [if_pos ⟨hs, h0, by omega⟩, Nat.zero_add]
theorem p_taker [Glob] {x b : Opd} {sz n t : Nat} {l r : List α} {k' : IntKind} {hi : Int} {row : Row} (h : takeL l hi = some r) (hx : x.ev s = some (.slr t 0 n)) (hn : n = l.length) (hb : b.ev s = some (.int k' hi)) (hr : R t = some row) (hs : row.sz = sz) : pop s R (.slcl sz x none (some b)) = some (.slr t 0 hi.toNat) := by
  obtain ⟨h1, h2, rfl⟩ := takeL_inv h
  simp only [pop, evO, hx, hb, Option.map_some, Option.bind_some, slclv, bounds, hr]
  rw [if_pos hs, if_pos ⟨h1, by omega⟩]
  simp
theorem p_cvbr [Glob] {x : Opd} {t lo n : Nat} {l r : List UInt8} (hx : x.ev s = some (.slr t lo n)) (hr : R t = some ⟨1, true, l.map eb⟩) (hl : ((l.map eb).drop lo).take n = r.map eb) : pop s R (.cvb x) = some (.str r) := by
  simp only [pop, hx, Option.bind_some, cvbv, hr]
  rw [hl, if_pos ⟨trivial, trivial, all_u8 r⟩, map_byte]
theorem p_cvu8 [Glob] {x : Opd} {k : IntKind} {n : Int} (hx : x.ev s = some (.int k n)) : pop s R (.cvi .u8 x) = some (eb (byte n)) := by
  simp only [pop, hx, Option.bind_some, cviv, eb]
  rw [u8_wrap]
theorem p_quo [Glob] {x y : Opd} {k : IntKind} {a b : Int} {u : Unit} (h : nz b = some u) (hx : x.ev s = some (.int k a)) (hy : y.ev s = some (.int k b)) : pop s R (.bin .quo x y) = some (.int k (k.wrap (a.tdiv b))) := by
  simp only [pop, hx, hy, opt2, binv, isShift, ibin]
  simp [nz_inv h]
theorem p_rem [Glob] {x y : Opd} {k : IntKind} {a b : Int} {u : Unit} (h : nz b = some u) (hx : x.ev s = some (.int k a)) (hy : y.ev s = some (.int k b)) : pop s R (.bin .rem x y) = some (.int k (a.tmod b)) := by
  simp only [pop, hx, hy, opt2, binv, isShift, ibin]
  simp [nz_inv h]
theorem p_pick1 {c x y : Opd} {t : Bool} {p : PV} (ht : t = true) (hc : c.ev s = some (.bool t)) (hx : x.ev s = some p) : pop s R (.pick c x y) = some p := by
  simp only [pop, hc, hx, ht, cond_true]
theorem p_pick0 {c x y : Opd} {t : Bool} {p : PV} (ht : t = false) (hc : c.ev s = some (.bool t)) (hx : y.ev s = some p) : pop s R (.pick c x y) = some p := by
  simp only [pop, hc, hx, ht, cond_false]
end
section
variable {P : Program} {T : Nat → Bool} {α : Type}
theorem wsto [Glob] {sz rsz t j o : Nat} {x y : Opd} {dst : Option Nat} {g : Option (Nat × Bool)} {r : List Ins} {st : St} {K : St → Prop} {f : α → PV} {l : List α} {e e' : α} {pr : Bool} {q : PV} (h : l[j]? = some e) (hg : gok st.s g = some true) (hx : x.ev st.s = some (.ptr t j o)) (hr : st.r t = some ⟨rsz, pr, l.map f⟩)
    (hy : y.ev st.s = some q) (hq : Nat.beq q.cells.length sz = true) (h0 : Nat.ble 1 sz = true) (h1 : q.cells.all PV.one = true) (hfit : Nat.ble (o + sz) rsz = true) (hpr : pr = true → q.free = true) (he : spl (f e) o q.cells = f e')
    (k : Wr P T r (St.put ⟨st.s, upd st.r t (some ⟨rsz, pr, (l.set j e').map f⟩)⟩ dst .undef) K) : Wr P T (⟨dst, .store sz x y, g⟩ :: r) st K := by
  refine ⟨st, _, Norm.refl, .run hg (osto (row := ⟨rsz, pr, l.map f⟩) (y := f e) hx hy hr (by show (l.map f)[j]? = _; rw [List.getElem?_map, h]; rfl) hq h0 h1 hfit hpr), ?_⟩
  have : ((l.map f).set j (spl (f e) o q.cells)) = (l.set j e').map f := by rw [he, List.map_set]
  simpa [this] using k
theorem wstb [Glob] {sz rsz t o : Nat} {x y : Opd} {dst : Option Nat} {g : Option (Nat × Bool)} {r : List Ins} {st : St} {K : St → Prop} {e e' : PV} {pr : Bool} {q : PV} (hg : gok st.s g = some true) (hx : x.ev st.s = some (.ptr t 0 o)) (hr : st.r t = some ⟨rsz, pr, [e]⟩)
    (hy : y.ev st.s = some q) (hq : Nat.beq q.cells.length sz = true) (h0 : Nat.ble 1 sz = true) (h1 : q.cells.all PV.one = true) (hfit : Nat.ble (o + sz) rsz = true) (hpr : pr = true → q.free = true) (he : spl e o q.cells = e')
    (k : Wr P T r (St.put ⟨st.s, upd st.r t (some ⟨rsz, pr, [e']⟩)⟩ dst .undef) K) : Wr P T (⟨dst, .store sz x y, g⟩ :: r) st K := by
  refine ⟨st, _, Norm.refl, .run hg (osto (row := ⟨rsz, pr, [e]⟩) (y := e) (i := 0) hx hy hr rfl hq h0 h1 hfit hpr), ?_⟩
  subst he
  exact k
theorem wpp [Glob] {d : Option Nat} {op : IOp} {g : Option (Nat × Bool)} {r : List Ins} {st : St} {K : St → Prop} {p : PV} (hg : gok st.s g = some true) (h : pop st.s st.r op = some p) (k : Wr P T r (st.put d p) K) : Wr P T (⟨d, op, g⟩ :: r) st K :=
  ⟨st, _, Norm.refl, .run hg (opop h), k⟩
theorem woo [Glob] {d : Option Nat} {op : IOp} {g : Option (Nat × Bool)} {r : List Ins} {st st' : St} {K : St → Prop} (hg : gok st.s g = some true) (h : OpS P T op d st st') (k : Wr P T r st' K) : Wr P T (⟨d, op, g⟩ :: r) st K :=
  ⟨st, _, Norm.refl, .run hg h, k⟩
theorem wsk [Glob] {d : Option Nat} {op : IOp} {g : Option (Nat × Bool)} {r : List Ins} {st : St} {K : St → Prop} (hg : gok st.s g = some false) (k : Wr P T r (st.put d .undef) K) : Wr P T (⟨d, op, g⟩ :: r) st K :=
  ⟨st, _, Norm.refl, .skip hg, k⟩
inductive Bors (R : Rows) : List PV → List PV → Prop
  | nil : Bors R [] []
  | cons {p q : PV} {l m : List PV} (h : Sub (p.bor noRows R) q) (k : Bors R l m) : Bors R (p :: l) (q :: m)
theorem Bors.subs {R : Rows} {l m : List PV} (h : Bors R l m) : Subs (l.map (PV.bor noRows R)) m := by
  induction h with
  | nil => exact .nil
  | cons h _ ih => exact .cons h ih
theorem sub_eq [Glob] {p q : PV} (h : p = q) : Sub p q := h ▸ sub_rfl
theorem bor_row [Glob] {R : Rows} {t lo n sz : Nat} {cs ys : List PV} (hr : R t = some ⟨sz, true, cs⟩) (h : (cs.drop lo).take n = ys) : Sub (PV.bor noRows R (.slr t lo n)) (.sl sz ys) := by
  have : PV.bor noRows R (.slr t lo n) = .sl sz ys := by
    simp only [PV.bor, PV.map, bs, noRows, hr, h, cond_true]
  exact sub_eq this
theorem ocal [Glob] {d : Option Nat} {f : FuncId} {xs : List Opd} {st : St} {ps qs : List PV} {res : PV} (hs : Sat P f noRows qs res noRows) (h : evs st.s xs = some ps) (hq : Bors st.r ps qs) (hf : (ps.all PV.free || res.nosl) = true) (ht : res.free = true)
    (htk : PV.tks (fun t => (st.r t).isSome) ps = true) : OpS P T (.call f xs) d st (st.put d res) :=
  ocall h rfl (hs.subs hq.subs) hf ht htk
theorem pcal [Glob] {f : FuncId} {xs : List Opd} {st : St} {ps qs : List PV} {res : PV} (hs : Sat P f noRows qs res noRows) (h : evs st.s xs = some ps) (hq : Bors st.r ps qs) (hf : (ps.all PV.free || res.nosl) = true) (ht : res.free = true)
    (htk : PV.tks (fun t => (st.r t).isSome) ps = true) : PurS P (.call f xs) st.s st.r res noRows := by
  refine .call ps res noRows h ?_ (hs.subs hq.subs) (PV.tk_free ht _) (fun t row h => by simp [noRows] at h) (fun p hp => PV.tks_mem htk p hp)
  rw [Bool.or_eq_true] at hf
  rcases hf with hf | hf
  · exact .inl fun p hp => PV.tk_free (List.all_eq_true.1 hf p hp) _
  · exact .inr ⟨hf, fun t row h => by simp [noRows] at h⟩
end
end Go.Vd
end
section
set_option linter.unusedVariables false
set_option linter.unusedSimpArgs false
namespace Go.Vd
open Go.RowKit
section
variable {P : Program} {T : Nat → Bool}
theorem xseg [Glob] {a b : IC} {st : St} {Q : Xt → St → Prop} (s1 : St) (ha : WX P T a st (After (fun s => Norm T s s1) Q)) (hb : WX P T b s1 Q) : WX P T (.seq a b) st Q := by
  refine xseq (xmono ha ?_)
  intro e s h
  cases e with
  | normal => exact xnorm h hb
  | exit i => exact h
  | ret => exact h
end
end Go.Vd
end
section
set_option linter.unusedVariables false
set_option linter.unusedSimpArgs false
namespace Go.Vd
open Go.RowKit
section
variable {P : Program} {T : Nat → Bool}
def freshL (r m : Rows) : List (Nat × Row) → Bool
  | [] => true
  | (t, _) :: l => ((m t).isSome || !(r t).isSome) && freshL r m l
theorem freshL_spec [Glob] {r m : Rows} : ∀ {l : List (Nat × Row)}, freshL r m l = true → ∀ t row, ofL l t = some row → m t = none → r t = none
  | [], _, t, row, h, _ => by cases h
  | (k, v) :: l, h, t, row, hl, hm => by
    simp only [freshL, Bool.and_eq_true, Bool.or_eq_true] at h
    unfold ofL at hl
    cases hk : Nat.beq t k with
    | true =>
      have e := Nat.eq_of_beq_eq_true hk
      subst e
      rcases h.1 with h1 | h1
      · rw [hm] at h1; cases h1
      · cases hr : r t with
        | none => rfl
        | some x => rw [hr] at h1; cases h1
    | false =>
      rw [hk] at hl
      exact freshL_spec h.2 t row hl hm
theorem callok_L [Glob] {st : St} {m mo : List (Nat × Row)} (hs : AllAt st.r m) (htk : rowsTk (fun t => (ofL m t).isSome) (m.map (·.2)) = true) (hf : freshL st.r (ofL m) mo = true) : CallOk st (ofL m) (ofL mo) :=
  ⟨fun t row ht => ⟨hs.get t row ht, rowsTk_mem htk row (ofL_mem ht)⟩, fun t row ht hn => freshL_spec hf t row ht hn⟩
theorem free_L {m : List (Nat × Row)} {mo : Rows} {ps : List PV} {res : PV} (h : PV.tks (fun t => (ofL m t).isSome) ps = true) : Free (ofL m) ps res mo := .inl fun p hp => PV.tks_mem h p hp
theorem olend [Glob] (m mo : List (Nat × Row)) {d : Option Nat} {f : FuncId} {xs : List Opd} {st : St} {ps qs : List PV} {res : PV} (hs : Sat P f (ofL m) qs res (ofL mo)) (h : evs st.s xs = some ps) (hq : ps.map (PV.bor (ofL m) st.r) = qs) (hr : AllAt st.r m)
    (htk : rowsTk (fun t => (ofL m t).isSome) (m.map (·.2)) = true) (hf : freshL st.r (ofL m) mo = true) (hfr : PV.tks (fun t => (ofL m t).isSome) ps = true) : OpS P T (.call f xs) d st (St.put ⟨st.s, mrg (ofL mo) st.r⟩ d res) :=
  .lend ps _ _ res h (callok_L hr htk hf) (free_L hfr) (hq ▸ hs)
def mkN (bytes : Nat) (n : Int) : Option Nat := if 0 ≤ n ∧ bytes * n.toNat ≤ 281474976710656 ∧ n.toNat ≤ 9223372036854775807 then some n.toNat else none
theorem wmks [Glob] {α : Type} (t : Nat) {sz bytes d : Nat} {z : PV} {x : Opd} {g : Option (Nat × Bool)} {r : List Ins} {st : St} {K : St → Prop} {k : IntKind} {n : Int} {m : Nat} {f : α → PV} {e : α} (h : mkN bytes n = some m) (hg : gok st.s g = some true) (hx : x.ev st.s = some (.int k n)) (hz : z = f e) (hf : z.free = true) (ht : st.r t = none) (hty : tyOf t = none)
    (K' : Wr P T r ⟨upd st.s d (some (.slr t 0 m)), upd st.r t (some ⟨sz, true, (List.replicate m e).map f⟩)⟩ K) : Wr P T (⟨some d, .mks sz bytes z x, g⟩ :: r) st K := by
  unfold mkN at h
  split at h
  · rename_i hc
    obtain ⟨h1, h2, h3⟩ := hc
    cases h
    refine ⟨st, _, Norm.refl, .run hg (omks t hx (by omega) h2 h3 hf ht hty), ?_⟩
    simpa [St.put, List.map_replicate, hz] using K'
  · cases h
end
end Go.Vd
end
section
set_option linter.unusedVariables false
set_option linter.unusedSimpArgs false
namespace Go.Gp
open Go.Vd Go.RowKit
def stringslite_Index (N : Nat) (s p : List UInt8) : Option Int := match p with
  | [c] => some (Lib.indexByte s c)
  | _ => none
theorem stringslite_Index_inv {N : Nat} {s p : List UInt8} {r : Int} (h : stringslite_Index N s p = some r) : ∃ c, p = [c] ∧ r = Lib.indexByte s c := by
  unfold stringslite_Index at h
  split at h
  · rename_i c; exact ⟨c, rfl, by simpa using h.symm⟩
  · cases h
end Go.Gp
end
section
set_option linter.unusedVariables false
set_option linter.unusedSimpArgs false
namespace Go.Vd
open Go.RowKit
def strings_Count (N : Nat) (s p : List UInt8) : Option Int := match p with
  | [c] => some (Lib.countByte s c : Int)
  | _ => none
theorem strings_Count_inv {N : Nat} {s p : List UInt8} {r : Int} (h : strings_Count N s p = some r) : ∃ c, p = [c] ∧ r = (Lib.countByte s c : Int) := by
  unfold strings_Count at h
  split at h
  · rename_i c; exact ⟨c, rfl, by simpa using h.symm⟩
  · cases h
section
variable {s : Slots} {R : Rows}
end
section
variable {T : Nat → Bool}
theorem tks_true' : ∀ l : List PV, PV.tks (fun _ => true) l = true
  | [] => rfl
  | p :: l => by rw [PV.tks, PV.tk_true, tks_true' l]; rfl
end
end Go.Vd
end
section
set_option linter.unusedVariables false
set_option linter.unusedSimpArgs false
namespace Go.Vd
section
variable {P : Program} {T : Nat → Bool} {ds : List (List Nat)} {ios : List Ins} {n : Nat} {S : List Nat} {st fin : St}
def AllR [Glob] (P : Program) (T : Nat → Bool) (ds : List (List Nat)) (ios : List Ins) (n : Nat) (S : List Nat) (st fin : St) : List Nat → Prop
  | [] => True
  | i :: r => (∃ io, ios[i]? = some io ∧ Wr P T [io] st (fun s => AnyW P T ds ios n (i :: S) s fin)) ∧ AllR P T ds ios n S st fin r
theorem AllR.mem [Glob] : ∀ {l : List Nat}, AllR P T ds ios n S st fin l → ∀ i ∈ l, ∃ io, ios[i]? = some io ∧ Wr P T [io] st (fun s => AnyW P T ds ios n (i :: S) s fin)
  | [], _, i, h => by cases h
  | j :: r, ⟨h1, h2⟩, i, h => by
    rcases List.mem_cons.1 h with rfl | h
    · exact h1
    · exact AllR.mem h2 i h
def sameL (S S' : List Nat) : Bool := S.all (fun x => S'.contains x) && S'.all (fun x => S.contains x)
theorem sameL_spec {S S' : List Nat} (h : sameL S S' = true) (x : Nat) : S.contains x = S'.contains x := by
  unfold sameL at h
  rw [Bool.and_eq_true, List.all_eq_true, List.all_eq_true] at h
  rw [Bool.eq_iff_iff]
  exact ⟨fun hx => h.1 x (List.contains_iff_mem.1 hx), fun hx => h.2 x (List.contains_iff_mem.1 hx)⟩
theorem rdy_same {S S' : List Nat} (h : ∀ x, S.contains x = S'.contains x) : rdy ds S = rdy ds S' := by
  unfold rdy
  congr 1
  funext i
  rw [h i]
  congr 1
  congr 1
  funext j
  rw [h j]
theorem AnyW.same [Glob] : ∀ (n : Nat) (S S' : List Nat) (st : St), (∀ x, S.contains x = S'.contains x) → AnyW P T ds ios n S' st fin → AnyW P T ds ios n S st fin
  | 0, S, S', st, h, ⟨h1, h2⟩ => ⟨(rdy_same h).trans h1, h2⟩
  | n + 1, S, S', st, h, ⟨h1, h2⟩ => ⟨fun e => h1 ((rdy_same h).symm.trans e), fun i hi => by
    obtain ⟨io, hio, st0, st1, k1, k2, k3⟩ := h2 i (rdy_same h ▸ hi)
    exact ⟨io, hio, st0, st1, k1, k2, AnyW.same n (i :: S) (i :: S') st1 (fun x => by simp only [List.contains_cons, h x]) k3⟩⟩
theorem AnyW.norm [Glob] {S : List Nat} {st' : St} (hn : Norm T st st') (h : AnyW P T ds ios n S st' fin) : AnyW P T ds ios n S st fin := by
  cases n with
  | zero => exact ⟨h.1, hn.trans h.2⟩
  | succ n =>
    refine ⟨fun e => hn.trans (h.1 e), fun i hi => ?_⟩
    obtain ⟨io, hio, st0, st1, k1, k2, k3⟩ := h.2 i hi
    exact ⟨io, hio, st0, st1, hn.trans k1, k2, k3⟩
theorem AnyW.of [Glob] {S S' : List Nat} {st' : St} (h : AnyW P T ds ios n S' st' fin) (hs : sameL S S' = true) (hn : Norm T st st') : AnyW P T ds ios n S st fin := AnyW.norm hn (AnyW.same n S S' st' (sameL_spec hs) h)
end
end Go.Vd
end
section
set_option linter.unusedVariables false
set_option linter.unusedSimpArgs false
namespace Go.Vd
open Go.RowKit
def lentT (l : List Nat) (t : Nat) : Bool := l.any fun u => Nat.beq t u
theorem lentT_ofL {α : Type} : ∀ (m : List (Nat × α)) (t : Nat), (ofL m t).isSome = lentT (m.map (·.1)) t
  | [], t => rfl
  | (k, v) :: m, t => by
    unfold ofL lentT
    rw [List.map_cons, List.any_cons]
    cases h : Nat.beq t k with
    | true => rfl
    | false => rw [cond_false, Bool.false_or]; exact lentT_ofL m t
def backL : List (Nat × Row) → List (Nat × Row) → Bool
  | [], _ => true
  | (t, r) :: l, mo => (match ofL mo t with | some r' => Nat.beq r'.sz r.sz && Nat.beq r'.cs.length r.cs.length | none => false) && backL l mo
theorem backL_spec : ∀ {m mo : List (Nat × Row)}, backL m mo = true → ∀ t row, ofL m t = some row → ∃ row', ofL mo t = some row' ∧ row'.sz = row.sz ∧ row'.cs.length = row.cs.length
  | [], _, _, t, row, h => by cases h
  | (k, r) :: l, mo, hb, t, row, h => by
    rw [backL, Bool.and_eq_true] at hb
    unfold ofL at h
    cases hk : Nat.beq t k with
    | true =>
      rw [hk, cond_true] at h
      cases h
      have := Nat.eq_of_beq_eq_true hk
      subst this
      have h1 := hb.1
      cases ho : ofL mo t with
      | none => simp [ho] at h1
      | some r' =>
        simp only [ho, Bool.and_eq_true, Nat.beq_eq] at h1
        exact ⟨r', rfl, h1.1, h1.2⟩
    | false => rw [hk, cond_false] at h; exact backL_spec hb.2 t row h
section
variable {P : Program}
theorem xsatO [Glob] (m mo : List (Nat × Row)) (hm : P.follows .mixedOrders = true) {f : FuncId} {fn : Func} {n : Nat} {code : IC} {rv : List IRes} (hf : P.funcs[f]? = some fn) (hc : cfunc P fn = some ⟨n, code, rv⟩) {ps rs : List PV} {res : PV} (hr : resOf rs = res) (hlen : Nat.ble ps.length n = true) (hb : backL m mo = true)
    (h : WX P (lentT (m.map (·.1))) code ⟨s0 n ps, ofL m⟩ fun e st' => (∀ id, e ≠ .exit id) ∧ gets st' rv = some rs ∧ PV.tks (fun t => (ofL mo t).isSome) rs = true ∧ AllAt st'.r mo ∧ rowsTk (fun t => (ofL mo t).isSome) (mo.map (·.2)) = true) : Sat P f (ofL m) ps res (ofL mo) := by
  obtain ⟨e, s, h1, h2, h3, h4, h5, h6⟩ := h
  subst hr
  have e1 : (fun t => (ofL m t).isSome) = lentT (m.map (·.1)) := funext (lentT_ofL m)
  refine sat_fn hm hf hc (Nat.le_of_ble_eq_true hlen) (e1 ▸ h1) h2 h3 h4 (fun t row h => ⟨h5.get t row h, rowsTk_mem h6 row (ofL_mem h)⟩) (fun t row h => backL_spec hb t row h)
end
section
variable {T : Nat → Bool}
def lentIn {α : Type} (l : List Nat) (m : List (Nat × α)) : Bool := l.all fun t => (ofL m t).isSome
theorem canonT [Glob] (L : List Nat) {st : St} {l : List (Nat × PV)} {m : List (Nat × Row)} (hL : lentIn L m = true) (hs : AllAt st.s l) (hr : AllAt st.r m) (h1 : PV.tks (fun t => (ofL m t).isSome) (l.map (·.2)) = true) (h2 : rowsTk (fun t => (ofL m t).isSome) (m.map (·.2)) = true) : Norm (lentT L) st ⟨ofL l, ofL m⟩ :=
  canonL l m hs hr h1 h2 fun t ht => by
    unfold lentT at ht
    obtain ⟨u, hu, htu⟩ := List.any_eq_true.1 ht
    have := Nat.eq_of_beq_eq_true htu
    subst this
    exact List.all_eq_true.1 hL t hu
end
abbrev eErr (k : Nat) (b : Bool) : PV := .err k b
section
variable {s : Slots} {R : Rows}
theorem p_eqi1 {k : Nat} {b : Bool} {x : Opd} (hx : x.ev s = some (.err k b)) : pop s R (.eqi true x) = some (.bool b) := by
  simp only [pop, hx, Option.bind_some]; rfl
theorem chkI_all {i : Int} {n x : Nat} (h : chkI i n = some x) : 0 ≤ i ∧ i < (n : Int) ∧ x = i.toNat ∧ x < n := by
  unfold chkI at h
  split at h
  · rename_i hc
    have e : i.toNat = x := by simpa using h
    subst e
    exact ⟨hc.1, hc.2, rfl, by omega⟩
  · cases h
theorem chk_ble {i : Int} {n x : Nat} (h : chkI i n = some x) : Nat.ble (x + 1) n = true := Nat.ble_eq_true_of_le (chkI_all h).2.2.2
theorem p_ixq {t x n : Nat} {i : Int} {kk : IntKind} {a b : Opd} {row : Row} (h : chkI i n = some x) (ha : a.ev s = some (.ptr t 0 0)) (hb : b.ev s = some (.int kk i)) (hr : R t = some row) (hsz : Nat.beq row.sz n = true) : pop s R (.ixq n 1 a b) = some (.ptr t 0 x) := by
  obtain ⟨h1, h2, h3, h4⟩ := chkI_all h
  have := Nat.eq_of_beq_eq_true hsz
  simp only [pop, ha, hb, opt2, ixqv, hr]
  subst h3
  simp only [Nat.mul_one, Nat.zero_add]
  rw [if_pos]
  refine ⟨h1, h2, ?_⟩
  omega
theorem p_ldq {α : Type} {t x n : Nat} {a : Opd} {pr : Bool} {l : List α} {f : α → PV} {v : α} (h : l[x]? = some v) (ha : a.ev s = some (.ptr t 0 x)) (hr : R t = some ⟨n, pr, [.agg (l.map f)]⟩) : pop s R (.load 1 false a) = some (f v) := by
  simp only [pop, ha, Option.bind_some, loadv, hr, List.getElem?_cons_zero, PV.cells]
  simp [partv, h]
end
section
variable {P : Program} {T : Nat → Bool}
theorem wstq [Glob] {α : Type} {n t j : Nat} {x y : Opd} {dst : Option Nat} {g : Option (Nat × Bool)} {r : List Ins} {st : St} {K : St → Prop} {l : List α} {f : α → PV} {e' w : α} {pr : Bool} (hj : l[j]? = some w) (hg : gok st.s g = some true) (hx : x.ev st.s = some (.ptr t 0 j)) (hr : st.r t = some ⟨n, pr, [.agg (l.map f)]⟩)
    (hy : y.ev st.s = some (f e')) (hn : Nat.ble (j + 1) n = true) (h0 : (f e').cells = [f e']) (h1 : (f e').one = true) (hpr : pr = true → (f e').free = true)
    (k : Wr P T r (St.put ⟨st.s, upd st.r t (some ⟨n, pr, [.agg ((l.set j e').map f)]⟩)⟩ dst .undef) K) : Wr P T (⟨dst, .store 1 x y, g⟩ :: r) st K := by
  obtain ⟨hlt, _⟩ := List.getElem?_eq_some_iff.1 hj
  refine wstb (e' := .agg ((l.set j e').map f)) hg hx hr hy (by rw [h0]; rfl) rfl (by rw [h0]; simp [h1]) hn hpr ?_ k
  rw [h0]
  simp only [spl, List.length_singleton]
  congr 1
  rw [List.map_set, List.set_eq_take_append_cons_drop, if_pos (by simpa using hlt)]
  simp
end
section
variable {P : Program} {T : Nat → Bool}
inductive BorsL (Ri R : Rows) : List PV → List PV → Prop
  | nil : BorsL Ri R [] []
  | cons {p q : PV} {l m : List PV} (h : Sub (p.bor Ri R) q) (k : BorsL Ri R l m) : BorsL Ri R (p :: l) (q :: m)
theorem BorsL.subs {Ri R : Rows} {l m : List PV} (h : BorsL Ri R l m) : Subs (l.map (PV.bor Ri R)) m := by
  induction h with
  | nil => exact .nil
  | cons h _ ih => exact .cons h ih
theorem olendB [Glob] (m mo : List (Nat × Row)) {d : Option Nat} {f : FuncId} {xs : List Opd} {st : St} {ps qs : List PV} {res : PV} (hs : Sat P f (ofL m) qs res (ofL mo)) (h : evs st.s xs = some ps) (hq : BorsL (ofL m) st.r ps qs) (hr : AllAt st.r m)
    (htk : rowsTk (fun t => (ofL m t).isSome) (m.map (·.2)) = true) (hf : freshL st.r (ofL m) mo = true) (hfr : PV.tks (fun t => (ofL m t).isSome) ps = true) : OpS P T (.call f xs) d st (St.put ⟨st.s, mrg (ofL mo) st.r⟩ d res) :=
  olend m mo (hs.subs hq.subs) h rfl hr htk hf hfr
def rowsNosl : List (Nat × Row) → Bool
  | [] => true
  | (_, r) :: l => PV.nosls r.cs && rowsNosl l
theorem rowsNosl_spec [Glob] : ∀ {m : List (Nat × Row)}, rowsNosl m = true → ∀ t row, ofL m t = some row → ∀ x ∈ row.cs, x.nosl = true
  | [], _, t, row, h => by cases h
  | (k, r) :: l, hb, t, row, h => by
    rw [rowsNosl, Bool.and_eq_true] at hb
    unfold ofL at h
    cases hk : Nat.beq t k with
    | true => rw [hk, cond_true] at h; cases h; exact fun x hx => PV.nosls_mem hb.1 x hx
    | false => rw [hk, cond_false] at h; exact rowsNosl_spec hb.2 t row h
theorem pcalN [Glob] (mo : List (Nat × Row)) {f : FuncId} {xs : List Opd} {s : Slots} {r : Rows} {ps qs : List PV} {res : PV} (hs : Sat P f noRows qs res (ofL mo)) (h : evs s xs = some ps) (hq : Bors r ps qs) (hn : res.nosl = true) (hm : rowsNosl mo = true)
    (ht : res.tk (fun t => (ofL mo t).isSome) = true) (hr : rowsTk (fun t => (ofL mo t).isSome) (mo.map (·.2)) = true) (htk : PV.tks (fun t => (r t).isSome) ps = true) : PurS P (.call f xs) s r res (ofL mo) :=
  .call ps res _ h (.inr ⟨hn, rowsNosl_spec hm⟩) (hs.subs hq.subs) ht (fun t row h => rowsTk_mem hr row (ofL_mem h)) (fun p hp => PV.tks_mem htk p hp)
theorem ocalN [Glob] (mo : List (Nat × Row)) {d : Option Nat} {f : FuncId} {xs : List Opd} {st : St} {ps qs : List PV} {res : PV} (hs : Sat P f noRows qs res (ofL mo)) (h : evs st.s xs = some ps) (hq : Bors st.r ps qs) (hn : res.nosl = true) (hm : rowsNosl mo = true)
    (ht : res.tk (fun t => (ofL mo t).isSome) = true) (hr : rowsTk (fun t => (ofL mo t).isSome) (mo.map (·.2)) = true) (htk : PV.tks (fun t => (st.r t).isSome) ps = true) (hf : freshL st.r noRows mo = true) : OpS P T (.call f xs) d st (St.put ⟨st.s, mrg (ofL mo) st.r⟩ d res) :=
  .pur res _ (pcalN mo hs h hq hn hm ht hr htk) fun t row h => freshL_spec hf t row h rfl
end
theorem boxpr [Glob] {T : Nat → Bool} (t : Nat) {sz : Nat} {x : PV} {st : St} (ht : st.r t = some ⟨sz, false, [x]⟩) (hf : x.cells.all PV.free = true) : Norm T st ⟨st.s, upd st.r t (some ⟨sz, true, [x]⟩)⟩ := by
  intro w0 O L n μ a w hL h
  have he : ∀ u row, (fun _ => true) u = true → st.r u = some row → μ u = μ u ∧ ∃ row', upd st.r t (some ⟨sz, true, [x]⟩) u = some row' ∧ row'.sz = row.sz ∧ row.cs.length ≤ row'.cs.length := by
    intro u row _ hu
    refine ⟨rfl, ?_⟩
    by_cases e : u = t
    · subst e
      rw [ht] at hu
      cases hu
      exact ⟨_, upd_same .., rfl, Nat.le_refl _⟩
    · exact ⟨row, by rw [upd_ne _ _ e]; exact hu, rfl, Nat.le_refl _⟩
  have hin : ∀ u row, upd st.r t (some ⟨sz, true, [x]⟩) u = some row → ∃ row', st.r u = some row' := by
    intro u row hu
    by_cases e : u = t
    · subst e; exact ⟨_, ht⟩
    · rw [upd_ne _ _ e] at hu; exact ⟨_, hu⟩
  have hO : ∀ b, b < w.heap.size → Av O μ (upd st.r t (some ⟨sz, true, [x]⟩)) b → Av O μ st.r b := by
    intro b _ hb
    rcases hb with hb | ⟨u, row, l, h1, h2, h3⟩
    · exact .inl hb
    · obtain ⟨row', h4⟩ := hin u row h1
      exact .inr ⟨u, row', l, h4, h2, h3⟩
  have hw : ∀ b, b < w.heap.size → ¬ Av O μ st.r b → w.heap[b]? = w.heap[b]? := fun _ _ _ => rfl
  refine ⟨μ, h.dfr, h.size, h.fr, h.out, fun j p hj => ?_, fun u row hu => ?_, fun u u' r r' l l' h1 h2 h3 h4 h5 => ?_, fun u r l h1 h2 => ?_, fun u hu => ?_⟩
  · obtain ⟨v, hv, hr⟩ := h.slot j p hj
    exact ⟨v, hv, hr.mono (fun _ => true) hw hO he (PV.tk_true _)⟩
  · simp only at hu
    by_cases e : u = t
    · subst e
      rw [upd_same] at hu
      cases hu
      have k := h.row u _ ht
      refine ⟨k.sz, fun z hz => ?_, fun hn => ?_, fun l hl => ?_, fun q hq l hl => ?_⟩
      · exact k.el z hz
      · have := k.non hn
        simp at this
      · obtain ⟨arr, ety, fz, h1, h2, h3, h4, h5⟩ := k.lie l hl
        refine ⟨arr, ety, fz, h1, h2, by simpa using h3, h4, fun i z j q hi hj => ?_⟩
        obtain ⟨v, hv, hc⟩ := h5 i z j q hi hj
        refine ⟨v, hv, ?_⟩
        unfold CellRel at hc ⊢
        rw [if_neg (by simp)] at hc
        rw [if_pos rfl]
        have hz : z = x := by
          cases i with
          | zero => simpa using hi.symm
          | succ i => simp at hi
        subst hz
        have hfr : q.free = true := List.all_eq_true.1 hf q (List.mem_of_getElem? hj)
        exact (hc.free hfr).frame (fun _ _ _ => rfl) hO
      · obtain ⟨e1, arr, fz, e2, e3⟩ := k.ty q hq l hl
        exact ⟨e1, arr, fz, e2, fun hp => by cases hp⟩
    · rw [upd_ne _ _ e] at hu
      exact (h.row u row hu).mono (fun _ => true) hw hO he rfl (fun _ _ => rfl) (by unfold Row.tk; rw [tks_true']; simp)
  · obtain ⟨s, hs'⟩ := hin u r h1
    obtain ⟨s', hs''⟩ := hin u' r' h2
    exact h.inj u u' s s' l l' hs' hs'' h3 h4 h5
  · obtain ⟨s, hs'⟩ := hin u r h1
    exact h.own u s l hs' h2
  · obtain ⟨h1, r, h2⟩ := h.keep u hu
    obtain ⟨_, row', h3, _⟩ := he u r rfl h2
    exact ⟨h1, row', h3⟩
end Go.Vd
end
section
set_option linter.unusedVariables false
set_option linter.unusedSimpArgs false
namespace Go.Vd
open Go.RowKit Go.Sort
theorem sat_libG [Glob] {P : Program} {f : FuncId} {ps : List PV} {vs : List Value} {res : PV} (hps : lits ps = some vs) (h : ∀ w, Glob.ok w → Calls P f vs.toArray w fun e w' => ∃ v, e = .returned v ∧ (∀ O, Rel0 w' O res v) ∧ Below w.heap.size w w') : Sat P f noRows ps res noRows := by
  intro O μ w us hO hin hargs
  have e := lits_inv hps hargs
  subst e
  refine (h w hO.ok).mono ?_
  rintro e w' ⟨v, rfl, hr, hb⟩
  refine ⟨v, μ, rfl, ⟨hb.os, hb.tape, hb.output, hb.size, fun b hlt _ => hb.block b hlt⟩, ⟨fun t row ht => by simp [noRows] at ht, fun t t' row row' l l' ht => by simp [noRows] at ht, fun t row l ht => by simp [noRows] at ht⟩,
    fun t row ht => by simp [noRows] at ht, fun t row l ht => by simp [noRows] at ht, .base _ _ (hr _)⟩
theorem below_grow (w : World) (k : Nat) (os : Array Obj) : Below w.heap.size w (grow (w.drewN k) os) := by
  refine ⟨rfl, rfl, rfl, by simp [grow, World.drewN], fun b hb => ?_⟩
  simp only [grow, World.drewN]
  exact Array.getElem?_append_left hb
end Go.Vd
namespace Go.Gp
open Go.Vd Go.RowKit Go.Sort
def dig : Nat → Nat → List UInt8 → List UInt8
  | 0, _, a => a
  | f + 1, u, a => if u < 10 then UInt8.ofNat (48 + u) :: a else dig f (u / 10) (UInt8.ofNat (48 + u % 10) :: a)
theorem dig_eq : ∀ (f u : Nat) (a : List UInt8), u < 10 ^ f → 0 < f → dig f u a = Lib.decDigits u ++ a
  | 0, u, a, h, h0 => by omega
  | f + 1, u, a, h, h0 => by
    rw [dig, Lib.decDigits]
    by_cases hu : u < 10
    · rw [if_pos hu, dif_pos hu]; rfl
    · rw [if_neg hu, dif_neg hu]
      have h1 : u / 10 < 10 ^ f := by rw [Nat.pow_succ] at h; omega
      have h2 : 0 < f := by
        cases f with
        | zero => simp at h; omega
        | succ f => omega
      rw [dig_eq f (u / 10) _ h1 h2]
      simp
def itoaS (n : Int) : List UInt8 := if n < 0 then 45 :: dig 20 n.natAbs [] else dig 20 n.toNat []
theorem itoaS_eq {n : Int} (h0 : -9223372036854775808 ≤ n) (h1 : n ≤ 9223372036854775807) : Lib.itoa n = itoaS n := by
  unfold Lib.itoa itoaS
  split
  · rw [dig_eq 20 _ _ (by omega) (by omega), List.append_nil]
  · rw [dig_eq 20 _ _ (by omega) (by omega), List.append_nil]
def strconv_FormatInt (N : Nat) (n b : Int) : Option (List UInt8) := if b = 10 ∧ -9223372036854775808 ≤ n ∧ n ≤ 9223372036854775807 then some (itoaS n) else none
def strconv_Itoa (N : Nat) (n : Int) : Option (List UInt8) := if -9223372036854775808 ≤ n ∧ n ≤ 9223372036854775807 then some (itoaS n) else none
def strconv_ParseInt (N : Nat) (s : List UInt8) (b k : Int) : Option (Int × Bool) :=
  if b = 10 ∧ k = 64 ∧ s.length ≤ 281474976710656 then some (match Lib.parseIntB 64 s with | .ok v => (v, false) | Lib.NumEnd.syntax => (0, true) | .range => (Lib.intSat 64 s, true)) else none
theorem sat_fmt [Glob] {P : Program} {f : FuncId} (hf : ∀ (n : Int), -9223372036854775808 ≤ n → n ≤ 9223372036854775807 → ∀ w, Glob.ok w → Calls P f #[.int .i64 n, .int .i64 10] w fun e w' => e = .returned (.string ⟨(Lib.itoa n).toArray⟩) ∧ ∃ k os, w' = grow (w.drewN k) os)
    {N : Nat} {n b : Int} {r : List UInt8} (h : strconv_FormatInt N n b = some r) : Sat P f noRows [.int .i64 n, .int .i64 b] (.str r) noRows := by
  unfold strconv_FormatInt at h
  split at h
  · rename_i hc
    obtain ⟨rfl, h0, h1⟩ := hc
    cases h
    refine sat_libG (vs := [.int .i64 n, .int .i64 10]) rfl fun w hw => (hf n h0 h1 w hw).mono ?_
    rintro e w' ⟨rfl, k, os, rfl⟩
    exact ⟨_, rfl, fun O => by rw [itoaS_eq h0 h1]; exact .str _, below_grow w k os⟩
  · cases h
theorem sat_itoa [Glob] {P : Program} {f : FuncId} (hf : ∀ (n : Int), -9223372036854775808 ≤ n → n ≤ 9223372036854775807 → ∀ w, Glob.ok w → Calls P f #[.int .i64 n] w fun e w' => e = .returned (.string ⟨(Lib.itoa n).toArray⟩) ∧ ∃ k os, w' = grow (w.drewN k) os)
    {N : Nat} {n : Int} {r : List UInt8} (h : strconv_Itoa N n = some r) : Sat P f noRows [.int .i64 n] (.str r) noRows := by
  unfold strconv_Itoa at h
  split at h
  · rename_i hc
    obtain ⟨h0, h1⟩ := hc
    cases h
    refine sat_libG (vs := [.int .i64 n]) rfl fun w hw => (hf n h0 h1 w hw).mono ?_
    rintro e w' ⟨rfl, k, os, rfl⟩
    exact ⟨_, rfl, fun O => by rw [itoaS_eq h0 h1]; exact .str _, below_grow w k os⟩
  · cases h
theorem sat_pint [Glob] {P : Program} {f et : Nat} {ne : Nat} (hok : ∀ (s : ByteArray) (v : Int), s.size ≤ 281474976710656 → Lib.parseIntB 64 s.data.toList = .ok v → ∀ w, Calls P f #[.string s, .int .i64 10, .int .i64 64] w fun e w' => e = .returned (.tuple #[.int .i64 v, .nilIface]) ∧ (w' = w ∨ ∃ t, w' = Lib.bytesWorld w ne t))
    (hsyn : ∀ (s : ByteArray), s.size ≤ 281474976710656 → Lib.parseIntB 64 s.data.toList = Lib.NumEnd.syntax → ∀ w, Glob.ok w → Calls P f #[.string s, .int .i64 10, .int .i64 64] w fun e w' => ∃ N, e = .returned (.tuple #[.int .i64 0, .iface et (.pointer (some ⟨N, 0, none⟩))]) ∧ Below w.heap.size w w')
    (hran : ∀ (s : ByteArray), s.size ≤ 281474976710656 → Lib.parseIntB 64 s.data.toList = .range → ∀ w, Glob.ok w → Calls P f #[.string s, .int .i64 10, .int .i64 64] w fun e w' => ∃ N, e = .returned (.tuple #[.int .i64 (Lib.intSat 64 s.data.toList), .iface et (.pointer (some ⟨N, 0, none⟩))]) ∧ Below w.heap.size w w')
    {N : Nat} {s : List UInt8} {b k : Int} {r : Int × Bool} (h : strconv_ParseInt N s b k = some r) : Sat P f noRows [.str s, .int .i64 b, .int .i64 k] (.tup [.int .i64 r.1, eErr et r.2]) noRows := by
  have pair : ∀ {w : World} {O : Nat → Prop} {n : Int} {p : PV} {v : Value}, Rel0 w O p v → Rel0 w O (.tup [.int .i64 n, p]) (.tuple #[.int .i64 n, v]) := by
    intro w O n p v hp
    refine .tup [.int .i64 n, p] [.int .i64 n, v] rfl fun j q u hj hu => ?_
    match j, hj, hu with
    | 0, hj, hu => simp at hj hu; subst hj; subst hu; exact .int _ _
    | 1, hj, hu => simp at hj hu; subst hj; subst hu; exact hp
    | j + 2, hj, hu => simp at hj
  unfold strconv_ParseInt at h
  split at h
  · rename_i hc
    obtain ⟨rfl, rfl, hl⟩ := hc
    have hsz : (⟨s.toArray⟩ : ByteArray).size ≤ 281474976710656 := by simpa [ByteArray.size] using hl
    refine sat_libG (vs := [.string ⟨s.toArray⟩, .int .i64 10, .int .i64 64]) rfl fun w hw => ?_
    rcases hp : Lib.parseIntB 64 s with v | _ | _
    · skip
      rw [hp] at h
      cases h
      refine (hok ⟨s.toArray⟩ v hsz (by simpa using hp) w).mono ?_
      rintro e w' ⟨rfl, hw'⟩
      refine ⟨_, rfl, fun O => pair (.errN et), ?_⟩
      rcases hw' with rfl | ⟨t, rfl⟩
      · exact .refl _ _
      · exact Lib.bytesWorld_below w _ t
    · skip
      rw [hp] at h
      cases h
      refine (hsyn ⟨s.toArray⟩ hsz (by simpa using hp) w hw).mono ?_
      rintro e w' ⟨N, rfl, hb⟩
      exact ⟨_, rfl, fun O => pair (.errS et _), hb⟩
    · skip
      rw [hp] at h
      cases h
      refine (hran ⟨s.toArray⟩ hsz (by simpa using hp) w hw).mono ?_
      rintro e w' ⟨N, rfl, hb⟩
      exact ⟨_, rfl, fun O => pair (.errS et _), hb⟩
  · cases h
end Go.Gp
end
