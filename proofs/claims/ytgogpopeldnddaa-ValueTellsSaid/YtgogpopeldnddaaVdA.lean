/- A small separation logic over the kit's walk: abstract values, rows of cells that a call owns, how they lie in a world. -/
import Derived.RowKit3
import Derived.LoopN
import Derived.Below
set_option linter.unusedVariables false
set_option linter.unusedSimpArgs false
namespace Go.Vd

/-- Abstract values. 'sl': a slice that nobody writes any more; 'slr': a slice of a row that is owned; 'ep': the place of cells that nobody writes. -/
inductive PV where
  | any
  | undef
  | int (k : IntKind) (n : Int)
  | bool (b : Bool)
  | str (s : List UInt8)
  | sl (sz : Nat) (xs : List PV)
  | slr (t lo n : Nat)
  | nl
  | agg (cs : List PV)
  | ptr (t i off : Nat)
  | ep (cs : List PV)
  | nilp
  | clo (f : FuncId) (caps : List PV)
  | nilf
  | tup (vs : List PV)
  | nili
  | ifc (t : TypeId) (v : PV)

def PV.cells : PV → List PV
  | .agg cs => cs
  | p => [p]

/-- Values of one cell. -/
def PV.one : PV → Bool
  | .agg _ | .tup _ | .undef => false
  | _ => true

/-- A row that is owned: cells of an element; 'pr': its elements hold no owned row; the elements. -/
structure Row where
  sz : Nat
  pr : Bool
  cs : List PV

structure Loc where
  b : Nat
  base : Nat
  room : Nat

abbrev Mu := Nat → Option Loc
abbrev Slots := Nat → Option PV
abbrev Rows := Nat → Option Row

structure St where
  s : Slots
  r : Rows

def upd {α : Type} (f : Nat → Option α) (k : Nat) (v : Option α) : Nat → Option α := fun n => bif Nat.beq n k then v else f n

theorem upd_same {α : Type} (f : Nat → Option α) (k : Nat) (v : Option α) : upd f k v k = v := by simp [upd]
theorem upd_ne {α : Type} (f : Nat → Option α) {k n : Nat} (v : Option α) (h : n ≠ k) : upd f k v n = f n := by
  have : Nat.beq n k = false := by rw [← Bool.not_eq_true, Nat.beq_eq]; exact h
  simp [upd, this]
theorem upd_comm {α : Type} (f : Nat → Option α) {k m : Nat} (v u : Option α) (h : k ≠ m) : upd (upd f k v) m u = upd (upd f m u) k v := by
  funext n
  by_cases h1 : n = k
  · subst h1; rw [upd_ne _ _ h, upd_same, upd_same]
  · by_cases h2 : n = m
    · subst h2; rw [upd_same, upd_ne _ _ h1, upd_same]
    · rw [upd_ne _ _ h2, upd_ne _ _ h1, upd_ne _ _ h1, upd_ne _ _ h2]

/-- Values that hold no owned row. -/
inductive Rel0 (w : World) (O : Nat → Prop) : PV → Value → Prop
  | any (v : Value) (h : v.oneCell' = true) : Rel0 w O .any v
  | undef : Rel0 w O .undef Go.undef
  | int (k : IntKind) (n : Int) : Rel0 w O (.int k n) (.int k n)
  | bool (b : Bool) : Rel0 w O (.bool b) (.bool b)
  | str (s : List UInt8) : Rel0 w O (.str s) (.string ⟨s.toArray⟩)
  | nl (A : Option Addr) : Rel0 w O .nl (.slice A 0 0)
  | sl0 (sz : Nat) (A : Option Addr) (c : Nat) : Rel0 w O (.sl sz []) (.slice A 0 c)
  | sl (sz : Nat) (xs : List PV) (b o c : Nat) (V : Nat → Nat → Value) (ho : ¬ O b) (hx : xs ≠ []) (hc : xs.length ≤ c) (hz : 0 < sz)
      (hs : ∀ x ∈ xs, x.cells.length = sz ∧ ∀ p ∈ x.cells, p.one = true)
      (h1 : ∀ (i : Nat) (x : PV) (j : Nat) (p : PV), xs[i]? = some x → x.cells[j]? = some p → w.cell? ⟨b, o + (i * sz + j), none⟩ = some (V i j))
      (h2 : ∀ (i : Nat) (x : PV) (j : Nat) (p : PV), xs[i]? = some x → x.cells[j]? = some p → Rel0 w O p (V i j)) : Rel0 w O (.sl sz xs) (.slice (some ⟨b, o, none⟩) xs.length c)
  | ep (cs : List PV) (b o : Nat) (V : Nat → Value) (ho : ¬ O b) (hx : cs ≠ []) (hs : ∀ p ∈ cs, p.one = true)
      (h1 : ∀ (j : Nat) (p : PV), cs[j]? = some p → w.cell? ⟨b, o + j, none⟩ = some (V j))
      (h2 : ∀ (j : Nat) (p : PV), cs[j]? = some p → Rel0 w O p (V j)) : Rel0 w O (.ep cs) (.pointer (some ⟨b, o, none⟩))
  | nilp : Rel0 w O .nilp (.pointer none)
  | clo (f : FuncId) (caps : List PV) (vs : List Value) (hl : vs.length = caps.length)
      (h : ∀ (j : Nat) (p : PV) (v : Value), caps[j]? = some p → vs[j]? = some v → Rel0 w O p v) : Rel0 w O (.clo f caps) (.func (.func f) #[] vs.toArray)
  | nilf : Rel0 w O .nilf .nilFunc
  | agg (cs : List PV) (vs : List Value) (hl : vs.length = cs.length) (hs : ∀ p ∈ cs, p.one = true)
      (h : ∀ (j : Nat) (p : PV) (v : Value), cs[j]? = some p → vs[j]? = some v → Rel0 w O p v) : Rel0 w O (.agg cs) (.agg vs.toArray)
  | tup (cs : List PV) (vs : List Value) (hl : vs.length = cs.length)
      (h : ∀ (j : Nat) (p : PV) (v : Value), cs[j]? = some p → vs[j]? = some v → Rel0 w O p v) : Rel0 w O (.tup cs) (.tuple vs.toArray)
  | nili : Rel0 w O .nili .nilIface
  | ifc (t : TypeId) (p : PV) (v : Value) (h : Rel0 w O p v) : Rel0 w O (.ifc t p) (.iface t v)

/-- Values as they stand in slots: they may lead to owned rows. -/
inductive Rel (w : World) (O : Nat → Prop) (μ : Mu) (R : Rows) : PV → Value → Prop
  | base (p : PV) (v : Value) (h : Rel0 w O p v) : Rel w O μ R p v
  | slr (t lo n c : Nat) (row : Row) (l : Loc) (hr : R t = some row) (hm : μ t = some l) (hn : lo + n ≤ row.cs.length) (hc : n ≤ c)
      (hroom : (lo + c) * row.sz ≤ l.room) : Rel w O μ R (.slr t lo n) (.slice (some ⟨l.b, l.base + lo * row.sz, none⟩) n c)
  | slr0 (t lo : Nat) (row : Row) (A : Option Addr) (hr : R t = some row) (hn : lo ≤ row.cs.length) : Rel w O μ R (.slr t lo 0) (.slice A 0 0)
  | ptr (t i off : Nat) (row : Row) (l : Loc) (hr : R t = some row) (hm : μ t = some l) (hi : i < row.cs.length) (ho : off < row.sz) :
      Rel w O μ R (.ptr t i off) (.pointer (some ⟨l.b, l.base + (i * row.sz + off), none⟩))
  | clo (f : FuncId) (caps : List PV) (vs : List Value) (hl : vs.length = caps.length)
      (h : ∀ (j : Nat) (p : PV) (v : Value), caps[j]? = some p → vs[j]? = some v → Rel w O μ R p v) : Rel w O μ R (.clo f caps) (.func (.func f) #[] vs.toArray)
  | agg (cs : List PV) (vs : List Value) (hl : vs.length = cs.length) (hs : ∀ p ∈ cs, p.one = true)
      (h : ∀ (j : Nat) (p : PV) (v : Value), cs[j]? = some p → vs[j]? = some v → Rel w O μ R p v) : Rel w O μ R (.agg cs) (.agg vs.toArray)
  | tup (cs : List PV) (vs : List Value) (hl : vs.length = cs.length)
      (h : ∀ (j : Nat) (p : PV) (v : Value), cs[j]? = some p → vs[j]? = some v → Rel w O μ R p v) : Rel w O μ R (.tup cs) (.tuple vs.toArray)

theorem cells_value (v : Value) (h : v.oneCell' = true) : v.cells = #[v] := by cases v <;> simp_all [Value.oneCell', Value.cells]

theorem Rel0.oneCell {w : World} {O : Nat → Prop} {p : PV} {v : Value} (h : Rel0 w O p v) (hp : p.one = true) : v.oneCell' = true := by
  cases h <;> simp_all [PV.one, Value.oneCell']

theorem Rel.oneCell {w : World} {O : Nat → Prop} {μ : Mu} {R : Rows} {p : PV} {v : Value} (h : Rel w O μ R p v) (hp : p.one = true) : v.oneCell' = true := by
  cases h with
  | base _ _ h => exact h.oneCell hp
  | _ => simp_all [PV.one, Value.oneCell']

/-- What a change of the world outside of what is avoided leaves of a value. -/
theorem Rel0.frame {w w' : World} {O O' : Nat → Prop} (hw : ∀ b, b < w.heap.size → ¬ O b → w'.heap[b]? = w.heap[b]?) (hO : ∀ b, b < w.heap.size → O' b → O b)
    {p : PV} {v : Value} (h : Rel0 w O p v) : Rel0 w' O' p v := by
  have hcell : ∀ (a : Addr) (u : Value), ¬ O a.block → w.cell? a = some u → w'.cell? a = some u := by
    intro a u ho hu
    have hlt := World.block_lt_of_cell? _ _ hu
    rw [← hu]
    unfold World.cell?
    rw [hw _ hlt ho]
  induction h with
  | any v h => exact .any v h
  | undef => exact .undef
  | int k n => exact .int k n
  | bool b => exact .bool b
  | str s => exact .str s
  | nl A => exact .nl A
  | sl0 sz A c => exact .sl0 sz A c
  | sl sz xs b o c V ho hx hc hz hs h1 h2 ih =>
    refine .sl sz xs b o c V ?_ hx hc hz hs (fun i x j p hi hj => hcell _ _ ho (h1 i x j p hi hj)) (fun i x j p hi hj => ih i x j p hi hj)
    intro hO'
    obtain ⟨x, hx0⟩ : ∃ x, xs[0]? = some x := by
      cases xs with
      | nil => exact absurd rfl hx
      | cons x r => exact ⟨x, rfl⟩
    have hxm := List.mem_of_getElem? hx0
    have hl := (hs x hxm).1
    have hp : ∃ p, x.cells[0]? = some p := ⟨x.cells[0]'(by omega), List.getElem?_eq_getElem (by omega)⟩
    obtain ⟨p, hp⟩ := hp
    exact ho (hO b (World.block_lt_of_cell? _ _ (h1 0 x 0 p hx0 hp)) hO')
  | ep cs b o V ho hx hs h1 h2 ih =>
    refine .ep cs b o V ?_ hx hs (fun j p hj => hcell _ _ ho (h1 j p hj)) (fun j p hj => ih j p hj)
    intro hO'
    cases cs with
    | nil => exact absurd rfl hx
    | cons p r => exact ho (hO b (World.block_lt_of_cell? _ _ (h1 0 p rfl)) hO')
  | nilp => exact .nilp
  | clo f caps vs hl h ih => exact .clo f caps vs hl ih
  | nilf => exact .nilf
  | agg cs vs hl hs h ih => exact .agg cs vs hl hs ih
  | tup cs vs hl h ih => exact .tup cs vs hl ih
  | nili => exact .nili
  | ifc t p v h ih => exact .ifc t p v ih

mutual
/-- All owned rows that a value names are such that. -/
def PV.tk (f : Nat → Bool) : PV → Bool
  | .slr t _ _ => f t
  | .ptr t _ _ => f t
  | .agg cs => PV.tks f cs
  | .tup cs => PV.tks f cs
  | .clo _ cs => PV.tks f cs
  | _ => true
def PV.tks (f : Nat → Bool) : List PV → Bool
  | [] => true
  | p :: r => PV.tk f p && PV.tks f r
end
mutual
/-- Each place of an owned row, put in another way. -/
def PV.map (fs fp : Nat → Nat → Nat → PV) : PV → PV
  | .slr t lo n => fs t lo n
  | .ptr t i o => fp t i o
  | .agg cs => .agg (PV.maps fs fp cs)
  | .tup cs => .tup (PV.maps fs fp cs)
  | .clo f cs => .clo f (PV.maps fs fp cs)
  | p => p
def PV.maps (fs fp : Nat → Nat → Nat → PV) : List PV → List PV
  | [] => []
  | p :: r => PV.map fs fp p :: PV.maps fs fp r
end

theorem PV.tks_mem {f : Nat → Bool} : ∀ {l : List PV}, PV.tks f l = true → ∀ p ∈ l, p.tk f = true
  | [], _, p, hp => by cases hp
  | q :: r, h, p, hp => by
    rw [PV.tks, Bool.and_eq_true] at h
    rcases List.mem_cons.1 hp with e | e
    · rw [e]; exact h.1
    · exact PV.tks_mem h.2 p e
theorem PV.maps_eq (fs fp : Nat → Nat → Nat → PV) : ∀ l : List PV, PV.maps fs fp l = l.map (PV.map fs fp)
  | [] => rfl
  | p :: r => by rw [PV.maps, PV.maps_eq fs fp r]; rfl
theorem PV.map_one {fs fp : Nat → Nat → Nat → PV} (hs : ∀ t lo n, (fs t lo n).one = true) (hp : ∀ t i o, (fp t i o).one = true) (p : PV) (h : p.one = true) : (p.map fs fp).one = true := by
  cases p <;> simp_all [PV.map, PV.one]

/-- Of a value under another world, other rows: what it names stays. -/
theorem Rel.mono {w w' : World} {O O' : Nat → Prop} {μ μ' : Mu} {R R' : Rows} (f : Nat → Bool) (hw : ∀ b, b < w.heap.size → ¬ O b → w'.heap[b]? = w.heap[b]?)
    (hO : ∀ b, b < w.heap.size → O' b → O b)
    (he : ∀ t row, f t = true → R t = some row → μ' t = μ t ∧ ∃ row', R' t = some row' ∧ row'.sz = row.sz ∧ row.cs.length ≤ row'.cs.length)
    {p : PV} {v : Value} (h : Rel w O μ R p v) (hf : p.tk f = true) : Rel w' O' μ' R' p v := by
  induction h with
  | base p v h => exact .base p v (h.frame hw hO)
  | slr t lo n c row l hr hm hn hc hroom =>
    obtain ⟨h1, row', h2, h3, h4⟩ := he t row hf hr
    rw [← h3]
    exact .slr t lo n c row' l h2 (h1.trans hm) (by omega) hc (by rw [h3]; exact hroom)
  | slr0 t lo row A hr hn =>
    obtain ⟨h1, row', h2, h3, h4⟩ := he t row hf hr
    exact .slr0 t lo row' A h2 (by omega)
  | ptr t i off row l hr hm hi ho =>
    obtain ⟨h1, row', h2, h3, h4⟩ := he t row hf hr
    rw [← h3]
    exact .ptr t i off row' l h2 (h1.trans hm) (by omega) (by omega)
  | clo g caps vs hl h ih => exact .clo g caps vs hl fun j p v hj hv => ih j p v hj hv (PV.tks_mem hf p (List.mem_of_getElem? hj))
  | agg cs vs hl hs h ih => exact .agg cs vs hl hs fun j p v hj hv => ih j p v hj hv (PV.tks_mem hf p (List.mem_of_getElem? hj))
  | tup cs vs hl h ih => exact .tup cs vs hl fun j p v hj hv => ih j p v hj hv (PV.tks_mem hf p (List.mem_of_getElem? hj))

theorem PV.tk_true : ∀ p : PV, p.tk (fun _ => true) = true := by
  intro p
  refine PV.rec (motive_1 := fun p => p.tk (fun _ => true) = true) (motive_2 := fun l => PV.tks (fun _ => true) l = true) ?_ ?_ ?_ ?_ ?_ ?_ ?_ ?_ ?_ ?_ ?_ ?_ ?_ ?_ ?_ ?_ ?_ ?_ ?_ p <;> intros <;> simp_all [PV.tk, PV.tks]

/-- Each place put in another way, soundly. -/
theorem Rel.map {w w' : World} {O O' : Nat → Prop} {μ μ' : Mu} {R R' : Rows} {fs fp : Nat → Nat → Nat → PV} (hw : ∀ b, b < w.heap.size → ¬ O b → w'.heap[b]? = w.heap[b]?)
    (hO : ∀ b, b < w.heap.size → O' b → O b) (hs1 : ∀ t lo n, (fs t lo n).one = true) (hp1 : ∀ t i o, (fp t i o).one = true)
    (hs : ∀ t lo n v, Rel w O μ R (.slr t lo n) v → Rel w' O' μ' R' (fs t lo n) v) (hp : ∀ t i o v, Rel w O μ R (.ptr t i o) v → Rel w' O' μ' R' (fp t i o) v)
    {p : PV} {v : Value} (h : Rel w O μ R p v) : Rel w' O' μ' R' (p.map fs fp) v := by
  have h0 : ∀ {p : PV} {v : Value}, Rel0 w O p v → Rel w' O' μ' R' (p.map fs fp) v := by
    intro p v h
    induction h with
    | clo g caps vs hl h ih =>
      rw [PV.map, PV.maps_eq]
      refine .clo g _ vs (by simpa using hl) fun j p v hj hv => ?_
      rw [List.getElem?_map] at hj
      obtain ⟨q, hq, rfl⟩ := Option.map_eq_some_iff.1 hj
      exact ih j q v hq hv
    | agg cs vs hl hs' h ih =>
      rw [PV.map, PV.maps_eq]
      refine .agg _ vs (by simpa using hl) (fun p hp' => ?_) fun j p v hj hv => ?_
      · obtain ⟨q, hq, rfl⟩ := List.mem_map.1 hp'
        exact PV.map_one hs1 hp1 q (hs' q hq)
      · rw [List.getElem?_map] at hj
        obtain ⟨q, hq, rfl⟩ := Option.map_eq_some_iff.1 hj
        exact ih j q v hq hv
    | tup cs vs hl h ih =>
      rw [PV.map, PV.maps_eq]
      refine .tup _ vs (by simpa using hl) fun j p v hj hv => ?_
      rw [List.getElem?_map] at hj
      obtain ⟨q, hq, rfl⟩ := Option.map_eq_some_iff.1 hj
      exact ih j q v hq hv
    | any v h => exact .base _ _ (.any v h)
    | undef => exact .base _ _ .undef
    | int k n => exact .base _ _ (.int k n)
    | bool b => exact .base _ _ (.bool b)
    | str s => exact .base _ _ (.str s)
    | nl A => exact .base _ _ (.nl A)
    | sl0 sz A c => exact .base _ _ (.sl0 sz A c)
    | sl sz xs b o c V ho hx hc hz hs h1 h2 ih => exact .base _ _ (Rel0.frame hw hO (.sl sz xs b o c V ho hx hc hz hs h1 h2))
    | ep cs b o V ho hx hs h1 h2 ih => exact .base _ _ (Rel0.frame hw hO (.ep cs b o V ho hx hs h1 h2))
    | nilp => exact .base _ _ .nilp
    | nilf => exact .base _ _ .nilf
    | nili => exact .base _ _ .nili
    | ifc t p v h ih => exact .base _ _ (Rel0.frame hw hO (.ifc t p v h))
  induction h with
  | base p v h => exact h0 h
  | slr t lo n c row l hr hm hn hc hroom => exact hs t lo n _ (.slr t lo n c row l hr hm hn hc hroom)
  | slr0 t lo row A hr hn => exact hs t lo 0 _ (.slr0 t lo row A hr hn)
  | ptr t i off row l hr hm hi ho => exact hp t i off _ (.ptr t i off row l hr hm hi ho)
  | clo g caps vs hl h ih =>
    rw [PV.map, PV.maps_eq]
    refine .clo g _ vs (by simpa using hl) fun j p v hj hv => ?_
    rw [List.getElem?_map] at hj
    obtain ⟨q, hq, rfl⟩ := Option.map_eq_some_iff.1 hj
    exact ih j q v hq hv
  | agg cs vs hl hs' h ih =>
    rw [PV.map, PV.maps_eq]
    refine .agg _ vs (by simpa using hl) (fun p hp' => ?_) fun j p v hj hv => ?_
    · obtain ⟨q, hq, rfl⟩ := List.mem_map.1 hp'
      exact PV.map_one hs1 hp1 q (hs' q hq)
    · rw [List.getElem?_map] at hj
      obtain ⟨q, hq, rfl⟩ := Option.map_eq_some_iff.1 hj
      exact ih j q v hq hv
  | tup cs vs hl h ih =>
    rw [PV.map, PV.maps_eq]
    refine .tup _ vs (by simpa using hl) fun j p v hj hv => ?_
    rw [List.getElem?_map] at hj
    obtain ⟨q, hq, rfl⟩ := Option.map_eq_some_iff.1 hj
    exact ih j q v hq hv

/-- The blocks of the rows that are owned. -/
def Owned (μ : Mu) (R : Rows) (b : Nat) : Prop := ∃ t row l, R t = some row ∧ μ t = some l ∧ l.b = b
def Av (O : Nat → Prop) (μ : Mu) (R : Rows) (b : Nat) : Prop := O b ∨ Owned μ R b

def CellRel (w : World) (O : Nat → Prop) (μ : Mu) (R : Rows) (pr : Bool) (p : PV) (v : Value) : Prop := if pr = true then Rel0 w O p v else Rel w O μ R p v

def Lies (w : World) (O : Nat → Prop) (μ : Mu) (R : Rows) (row : Row) (l : Loc) : Prop :=
  ∃ arr ety fz, w.heap[l.b]? = some (.cells arr ety fz) ∧ l.base + l.room ≤ arr.size ∧ row.cs.length * row.sz ≤ l.room ∧
    (∀ j, l.base ≤ j → j < l.base + l.room → ¬ (fz.1 ≤ j ∧ j < fz.2)) ∧
    (∀ (i : Nat) (x : PV) (j : Nat) (p : PV), row.cs[i]? = some x → x.cells[j]? = some p → ∃ v, arr[l.base + (i * row.sz + j)]? = some v ∧ CellRel w O μ R row.pr p v)

structure RowRel (w : World) (O : Nat → Prop) (μ : Mu) (R : Rows) (t : Nat) (row : Row) : Prop where
  sz : 0 < row.sz
  el : ∀ x ∈ row.cs, x.cells.length = row.sz ∧ ∀ p ∈ x.cells, p.one = true
  non : μ t = none → row.cs = []
  lie : ∀ l, μ t = some l → Lies w O μ R row l

/-- What a call leaves as it was: all but the blocks of L. -/
structure Fr (L : Nat → Prop) (w w' : World) : Prop where
  os : w'.os = w.os
  tape : w'.tape = w.tape
  output : w'.output = w.output
  size : w.heap.size ≤ w'.heap.size
  block : ∀ b, b < w.heap.size → ¬ L b → w'.heap[b]? = w.heap[b]?

theorem Fr.refl (L : Nat → Prop) (w : World) : Fr L w w := ⟨rfl, rfl, rfl, Nat.le_refl _, fun _ _ _ => rfl⟩
theorem Fr.trans {L : Nat → Prop} {a b c : World} (h : Fr L a b) {L' : Nat → Prop} (k : Fr L' b c) (hL : ∀ x, x < a.heap.size → L' x → L x) : Fr L a c :=
  ⟨k.os.trans h.os, k.tape.trans h.tape, k.output.trans h.output, Nat.le_trans h.size k.size,
    fun x hx hn => (k.block x (Nat.lt_of_lt_of_le hx h.size) (fun hl => hn (hL x hx hl))).trans (h.block x hx hn)⟩
theorem Fr.drew {L : Nat → Prop} {a w : World} (h : Fr L a w) : Fr L a w.drew := ⟨h.os, h.tape, h.output, h.size, h.block⟩

/-- What is lent to a call: blocks; the rows' names; where these lie. -/
structure Lent where
  f : Nat → Prop
  T : Nat → Bool
  μ : Mu

/-- How an abstract state stands for a frame and a world. w0: the world as the call began; O: blocks that are avoided; L: what is lent. -/
structure StRel (w0 : World) (O : Nat → Prop) (L : Lent) (n : Nat) (μ : Mu) (st : St) (a : Act) (w : World) : Prop where
  dfr : a.defers = []
  size : a.tmps.size = n
  fr : Fr L.f w0 w
  out : ∀ b, O b → b < w0.heap.size
  slot : ∀ k p, st.s k = some p → ∃ v, a.tmps[k]? = some v ∧ Rel w (Av O μ st.r) μ st.r p v
  row : ∀ t row, st.r t = some row → RowRel w (Av O μ st.r) μ st.r t row
  inj : ∀ t t' row row' l l', st.r t = some row → st.r t' = some row' → μ t = some l → μ t' = some l' → l.b = l'.b → t = t'
  own : ∀ t row l, st.r t = some row → μ t = some l → ¬ O l.b ∧ (w0.heap.size ≤ l.b ∨ L.f l.b)
  keep : ∀ t, L.T t = true → μ t = L.μ t ∧ ∃ row, st.r t = some row

end Go.Vd
