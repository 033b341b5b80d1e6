/- A part of the proof: a logic of values, rows and steps. -/
import Derived.RowKit3
import Derived.LoopN
import Derived.Below
import Derived.Laws.Slices
import Derived.Laws.Strings
import Derived.Laws.Concat
import Derived.Laws.Append
import Derived.Laws.StructEq
import Derived.Laws.Cells
import Derived.Laws.BytesString
section
set_option linter.unusedVariables false
set_option linter.unusedSimpArgs false
namespace Go.Vd
inductive PV where
 | any
 | undef
 | int (k : IntKind) (n : Int)
 | bool (b : Bool)
 | str (s : List UInt8)
 | sl (sz : Nat) (xs : List PV)
 | slr (t lo n : Nat)
 | nl
 | agg (cs : List PV)
 | ptr (t i off : Nat)
 | ep (cs : List PV)
 | nilp
 | clo (f : FuncId) (caps : List PV)
 | nilf
 | tup (vs : List PV)
 | nili
 | ifc (t : TypeId) (v : PV)
 | err (k : Nat) (b : Bool)
def PV.cells : PV → List PV
 | .agg cs => cs
 | p => [p]
def PV.one : PV → Bool
 | .agg _ | .tup _ | .undef => false
 | _ => true
structure Row where
 sz : Nat
 pr : Bool
 cs : List PV
structure Loc where
 b : Nat
 base : Nat
 room : Nat
abbrev Mu := Nat → Option Loc
abbrev EY := Nat → Option PV
abbrev Rows := Nat → Option Row
structure St where
 s : EY
 r : Rows
def upd {α : Type} (f : Nat → Option α) (k : Nat) (v : Option α) : Nat → Option α := fun n => bif Nat.beq n k then v else f n
theorem upd_same {α : Type} (f : Nat → Option α) (k : Nat) (v : Option α) : upd f k v k = v := by simp [upd]
theorem upd_ne {α : Type} (f : Nat → Option α) {k n : Nat} (v : Option α) (h : n ≠ k) : upd f k v n = f n := by
 have : Nat.beq n k = false := by rw [← Bool.not_eq_true, Nat.beq_eq]; exact h
 simp [upd, this]
inductive DZ (w : World) (O : Nat → Prop) : PV → Value → Prop
 | any (v : Value) (h : v.oneCell' = true) : DZ w O .any v
 | undef : DZ w O .undef Go.undef
 | int (k : IntKind) (n : Int) : DZ w O (.int k n) (.int k n)
 | bool (b : Bool) : DZ w O (.bool b) (.bool b)
 | str (s : List UInt8) : DZ w O (.str s) (.string ⟨s.toArray⟩)
 | nl : DZ w O .nl (.slice none 0 0)
 | sl0 (sz : Nat) (A : Option Addr) (c : Nat) : DZ w O (.sl sz []) (.slice A 0 c)
 | sl (sz : Nat) (xs : List PV) (b o c : Nat) (V : Nat → Nat → Value) (ho : ¬ O b) (hx : xs ≠ []) (hc : xs.length ≤ c) (hz : 0 < sz)
   (hs : ∀ x ∈ xs, x.cells.length = sz ∧ ∀ p ∈ x.cells, p.one = true)
   (h1 : ∀ (i : Nat) (x : PV) (j : Nat) (p : PV), xs[i]? = some x → x.cells[j]? = some p → w.cell? ⟨b, o + (i * sz + j), none⟩ = some (V i j))
   (h2 : ∀ (i : Nat) (x : PV) (j : Nat) (p : PV), xs[i]? = some x → x.cells[j]? = some p → DZ w O p (V i j)) : DZ w O (.sl sz xs) (.slice (some ⟨b, o, none⟩) xs.length c)
 | ep (cs : List PV) (b o : Nat) (V : Nat → Value) (ho : ¬ O b) (hx : cs ≠ []) (hs : ∀ p ∈ cs, p.one = true)
   (h1 : ∀ (j : Nat) (p : PV), cs[j]? = some p → w.cell? ⟨b, o + j, none⟩ = some (V j))
   (h2 : ∀ (j : Nat) (p : PV), cs[j]? = some p → DZ w O p (V j)) : DZ w O (.ep cs) (.pointer (some ⟨b, o, none⟩))
 | nilp : DZ w O .nilp (.pointer none)
 | clo (f : FuncId) (caps : List PV) (vs : List Value) (hl : vs.length = caps.length)
   (h : ∀ (j : Nat) (p : PV) (v : Value), caps[j]? = some p → vs[j]? = some v → DZ w O p v) : DZ w O (.clo f caps) (.func (.func f) #[] vs.toArray)
 | nilf : DZ w O .nilf .nilFunc
 | agg (cs : List PV) (vs : List Value) (hl : vs.length = cs.length) (hs : ∀ p ∈ cs, p.one = true)
   (h : ∀ (j : Nat) (p : PV) (v : Value), cs[j]? = some p → vs[j]? = some v → DZ w O p v) : DZ w O (.agg cs) (.agg vs.toArray)
 | tup (cs : List PV) (vs : List Value) (hl : vs.length = cs.length)
   (h : ∀ (j : Nat) (p : PV) (v : Value), cs[j]? = some p → vs[j]? = some v → DZ w O p v) : DZ w O (.tup cs) (.tuple vs.toArray)
 | nili : DZ w O .nili .nilIface
 | ifc (t : TypeId) (p : PV) (v : Value) (h : DZ w O p v) : DZ w O (.ifc t p) (.iface t v)
 | errN (k : Nat) : DZ w O (.err k false) .nilIface
 | errS (k : Nat) (v : Value) : DZ w O (.err k true) (.iface k v)
inductive D8 (w : World) (O : Nat → Prop) (μ : Mu) (R : Rows) : PV → Value → Prop
 | base (p : PV) (v : Value) (h : DZ w O p v) : D8 w O μ R p v
 | slr (t lo n c : Nat) (row : Row) (l : Loc) (hr : R t = some row) (hm : μ t = some l) (hn : lo + n ≤ row.cs.length) (hc : n ≤ c)
   (hroom : (lo + c) * row.sz ≤ l.room) : D8 w O μ R (.slr t lo n) (.slice (some ⟨l.b, l.base + lo * row.sz, none⟩) n c)
 | slr0 (t lo : Nat) (row : Row) (A : Option Addr) (hr : R t = some row) (hn : lo ≤ row.cs.length) : D8 w O μ R (.slr t lo 0) (.slice A 0 0)
 | ptr (t i off : Nat) (row : Row) (l : Loc) (hr : R t = some row) (hm : μ t = some l) (hi : i < row.cs.length) (ho : off < row.sz) :
   D8 w O μ R (.ptr t i off) (.pointer (some ⟨l.b, l.base + (i * row.sz + off), none⟩))
 | clo (f : FuncId) (caps : List PV) (vs : List Value) (hl : vs.length = caps.length)
   (h : ∀ (j : Nat) (p : PV) (v : Value), caps[j]? = some p → vs[j]? = some v → D8 w O μ R p v) : D8 w O μ R (.clo f caps) (.func (.func f) #[] vs.toArray)
 | agg (cs : List PV) (vs : List Value) (hl : vs.length = cs.length) (hs : ∀ p ∈ cs, p.one = true)
   (h : ∀ (j : Nat) (p : PV) (v : Value), cs[j]? = some p → vs[j]? = some v → D8 w O μ R p v) : D8 w O μ R (.agg cs) (.agg vs.toArray)
 | tup (cs : List PV) (vs : List Value) (hl : vs.length = cs.length)
   (h : ∀ (j : Nat) (p : PV) (v : Value), cs[j]? = some p → vs[j]? = some v → D8 w O μ R p v) : D8 w O μ R (.tup cs) (.tuple vs.toArray)
theorem lJ (v : Value) (h : v.oneCell' = true) : v.cells = #[v] := by cases v <;> simp_all [Value.oneCell', Value.cells]
theorem DZ.oneCell {w : World} {O : Nat → Prop} {p : PV} {v : Value} (h : DZ w O p v) (hp : p.one = true) : v.oneCell' = true := by
 cases h <;> simp_all [PV.one, Value.oneCell']
theorem D8.oneCell {w : World} {O : Nat → Prop} {μ : Mu} {R : Rows} {p : PV} {v : Value} (h : D8 w O μ R p v) (hp : p.one = true) : v.oneCell' = true := by
 cases h with
 | base _ _ h => exact h.oneCell hp
 | _ => simp_all [PV.one, Value.oneCell']
theorem DZ.frame {w w' : World} {O O' : Nat → Prop} (hw : ∀ b, b < w.heap.size → ¬ O b → w'.heap[b]? = w.heap[b]?) (hO : ∀ b, b < w.heap.size → O' b → O b)
  {p : PV} {v : Value} (h : DZ w O p v) : DZ w' O' p v := by
 have hcell : ∀ (a : Addr) (u : Value), ¬ O a.block → w.cell? a = some u → w'.cell? a = some u := by
  intro a u ho hu
  have hlt := World.block_lt_of_cell? _ _ hu
  rw [← hu]
  unfold World.cell?
  rw [hw _ hlt ho]
 induction h with
 | any v h => exact .any v h
 | undef => exact .undef
 | int k n => exact .int k n
 | bool b => exact .bool b
 | str s => exact .str s
 | nl => exact .nl
 | sl0 sz A c => exact .sl0 sz A c
 | sl sz xs b o c V ho hx hc hz hs h1 h2 ih =>
  refine .sl sz xs b o c V ?_ hx hc hz hs (fun i x j p hi hj => hcell _ _ ho (h1 i x j p hi hj)) (fun i x j p hi hj => ih i x j p hi hj)
  intro hO'
  obtain ⟨x, hx0⟩ : ∃ x, xs[0]? = some x := by
   cases xs with
   | nil => exact absurd rfl hx
   | cons x r => exact ⟨x, rfl⟩
  have hxm := List.mem_of_getElem? hx0
  have hl := (hs x hxm).1
  have hp : ∃ p, x.cells[0]? = some p := ⟨x.cells[0]'(by omega), List.getElem?_eq_getElem (by omega)⟩
  obtain ⟨p, hp⟩ := hp
  exact ho (hO b (World.block_lt_of_cell? _ _ (h1 0 x 0 p hx0 hp)) hO')
 | ep cs b o V ho hx hs h1 h2 ih =>
  refine .ep cs b o V ?_ hx hs (fun j p hj => hcell _ _ ho (h1 j p hj)) (fun j p hj => ih j p hj)
  intro hO'
  cases cs with
  | nil => exact absurd rfl hx
  | cons p r => exact ho (hO b (World.block_lt_of_cell? _ _ (h1 0 p rfl)) hO')
 | nilp => exact .nilp
 | clo f caps vs hl h ih => exact .clo f caps vs hl ih
 | nilf => exact .nilf
 | agg cs vs hl hs h ih => exact .agg cs vs hl hs ih
 | tup cs vs hl h ih => exact .tup cs vs hl ih
 | nili => exact .nili
 | ifc t p v h ih => exact .ifc t p v ih
 | errN k => exact .errN k
 | errS k v => exact .errS k v
mutual
def PV.tk (f : Nat → Bool) : PV → Bool
 | .slr t _ _ => f t
 | .ptr t _ _ => f t
 | .agg cs => PV.tks f cs
 | .tup cs => PV.tks f cs
 | .clo _ cs => PV.tks f cs
 | _ => true
def PV.tks (f : Nat → Bool) : List PV → Bool
 | [] => true
 | p :: r => PV.tk f p && PV.tks f r
end
mutual
def PV.map (fs fp : Nat → Nat → Nat → PV) : PV → PV
 | .slr t lo n => fs t lo n
 | .ptr t i o => fp t i o
 | .agg cs => .agg (PV.maps fs fp cs)
 | .tup cs => .tup (PV.maps fs fp cs)
 | .clo f cs => .clo f (PV.maps fs fp cs)
 | p => p
def PV.maps (fs fp : Nat → Nat → Nat → PV) : List PV → List PV
 | [] => []
 | p :: r => PV.map fs fp p :: PV.maps fs fp r
end
theorem PV.tks_mem {f : Nat → Bool} : ∀ {l : List PV}, PV.tks f l = true → ∀ p ∈ l, p.tk f = true
 | [], _, p, hp => by cases hp
 | q :: r, h, p, hp => by
  rw [PV.tks, Bool.and_eq_true] at h
  rcases List.mem_cons.1 hp with e | e
  ·rw [e]; exact h.1
  ·exact PV.tks_mem h.2 p e
theorem PV.maps_eq (fs fp : Nat → Nat → Nat → PV) : ∀ l : List PV, PV.maps fs fp l = l.map (PV.map fs fp)
 | [] => rfl
 | p :: r => by rw [PV.maps, PV.maps_eq fs fp r]; rfl
theorem PV.map_one {fs fp : Nat → Nat → Nat → PV} (hs : ∀ t lo n, (fs t lo n).one = true) (hp : ∀ t i o, (fp t i o).one = true) (p : PV) (h : p.one = true) : (p.map fs fp).one = true := by
 cases p <;> simp_all [PV.map, PV.one]
theorem D8.mono {w w' : World} {O O' : Nat → Prop} {μ μ' : Mu} {R R' : Rows} (f : Nat → Bool) (hw : ∀ b, b < w.heap.size → ¬ O b → w'.heap[b]? = w.heap[b]?)
  (hO : ∀ b, b < w.heap.size → O' b → O b)
  (he : ∀ t row, f t = true → R t = some row → μ' t = μ t ∧ ∃ row', R' t = some row' ∧ row'.sz = row.sz ∧ row.cs.length ≤ row'.cs.length)
  {p : PV} {v : Value} (h : D8 w O μ R p v) (hf : p.tk f = true) : D8 w' O' μ' R' p v := by
 induction h with
 | base p v h => exact .base p v (h.frame hw hO)
 | slr t lo n c row l hr hm hn hc hroom =>
  obtain ⟨h1, row', h2, h3, h4⟩ := he t row hf hr
  rw [← h3]
  exact .slr t lo n c row' l h2 (h1.trans hm) (by omega) hc (by rw [h3]; exact hroom)
 | slr0 t lo row A hr hn =>
  obtain ⟨h1, row', h2, h3, h4⟩ := he t row hf hr
  exact .slr0 t lo row' A h2 (by omega)
 | ptr t i off row l hr hm hi ho =>
  obtain ⟨h1, row', h2, h3, h4⟩ := he t row hf hr
  rw [← h3]
  exact .ptr t i off row' l h2 (h1.trans hm) (by omega) (by omega)
 | clo g caps vs hl h ih => exact .clo g caps vs hl fun j p v hj hv => ih j p v hj hv (PV.tks_mem hf p (List.mem_of_getElem? hj))
 | agg cs vs hl hs h ih => exact .agg cs vs hl hs fun j p v hj hv => ih j p v hj hv (PV.tks_mem hf p (List.mem_of_getElem? hj))
 | tup cs vs hl h ih => exact .tup cs vs hl fun j p v hj hv => ih j p v hj hv (PV.tks_mem hf p (List.mem_of_getElem? hj))
theorem PV.tk_true : ∀ p : PV, p.tk (fun _ => true) = true := by
 intro p
 refine PV.rec (motive_1 := fun p => p.tk (fun _ => true) = true) (motive_2 := fun l => PV.tks (fun _ => true) l = true) ?_ ?_ ?_ ?_ ?_ ?_ ?_ ?_ ?_ ?_ ?_ ?_ ?_ ?_ ?_ ?_ ?_ ?_ ?_ ?_ p <;> intros <;> simp_all [PV.tk, PV.tks]
theorem D8.map {w w' : World} {O O' : Nat → Prop} {μ μ' : Mu} {R R' : Rows} {fs fp : Nat → Nat → Nat → PV} (hw : ∀ b, b < w.heap.size → ¬ O b → w'.heap[b]? = w.heap[b]?)
  (hO : ∀ b, b < w.heap.size → O' b → O b) (hs1 : ∀ t lo n, (fs t lo n).one = true) (hp1 : ∀ t i o, (fp t i o).one = true)
  (hs : ∀ t lo n v, D8 w O μ R (.slr t lo n) v → D8 w' O' μ' R' (fs t lo n) v) (hp : ∀ t i o v, D8 w O μ R (.ptr t i o) v → D8 w' O' μ' R' (fp t i o) v)
  {p : PV} {v : Value} (h : D8 w O μ R p v) : D8 w' O' μ' R' (p.map fs fp) v := by
 have h0 : ∀ {p : PV} {v : Value}, DZ w O p v → D8 w' O' μ' R' (p.map fs fp) v := by
  intro p v h
  induction h with
  | clo g caps vs hl h ih =>
   rw [PV.map, PV.maps_eq]
   refine .clo g _ vs (by simpa using hl) fun j p v hj hv => ?_
   rw [List.getElem?_map] at hj
   obtain ⟨q, hq, rfl⟩ := Option.map_eq_some_iff.1 hj
   exact ih j q v hq hv
  | agg cs vs hl hs' h ih =>
   rw [PV.map, PV.maps_eq]
   refine .agg _ vs (by simpa using hl) (fun p hp' => ?_) fun j p v hj hv => ?_
   ·obtain ⟨q, hq, rfl⟩ := List.mem_map.1 hp'
    exact PV.map_one hs1 hp1 q (hs' q hq)
   ·rw [List.getElem?_map] at hj
    obtain ⟨q, hq, rfl⟩ := Option.map_eq_some_iff.1 hj
    exact ih j q v hq hv
  | tup cs vs hl h ih =>
   rw [PV.map, PV.maps_eq]
   refine .tup _ vs (by simpa using hl) fun j p v hj hv => ?_
   rw [List.getElem?_map] at hj
   obtain ⟨q, hq, rfl⟩ := Option.map_eq_some_iff.1 hj
   exact ih j q v hq hv
  | any v h => exact .base _ _ (.any v h)
  | undef => exact .base _ _ .undef
  | int k n => exact .base _ _ (.int k n)
  | bool b => exact .base _ _ (.bool b)
  | str s => exact .base _ _ (.str s)
  | nl => exact .base _ _ .nl
  | sl0 sz A c => exact .base _ _ (.sl0 sz A c)
  | sl sz xs b o c V ho hx hc hz hs h1 h2 ih => exact .base _ _ (DZ.frame hw hO (.sl sz xs b o c V ho hx hc hz hs h1 h2))
  | ep cs b o V ho hx hs h1 h2 ih => exact .base _ _ (DZ.frame hw hO (.ep cs b o V ho hx hs h1 h2))
  | nilp => exact .base _ _ .nilp
  | nilf => exact .base _ _ .nilf
  | nili => exact .base _ _ .nili
  | ifc t p v h ih => exact .base _ _ (DZ.frame hw hO (.ifc t p v h))
  | errN k => exact .base _ _ (.errN k)
  | errS k v => exact .base _ _ (.errS k v)
 induction h with
 | base p v h => exact h0 h
 | slr t lo n c row l hr hm hn hc hroom => exact hs t lo n _ (.slr t lo n c row l hr hm hn hc hroom)
 | slr0 t lo row A hr hn => exact hs t lo 0 _ (.slr0 t lo row A hr hn)
 | ptr t i off row l hr hm hi ho => exact hp t i off _ (.ptr t i off row l hr hm hi ho)
 | clo g caps vs hl h ih =>
  rw [PV.map, PV.maps_eq]
  refine .clo g _ vs (by simpa using hl) fun j p v hj hv => ?_
  rw [List.getElem?_map] at hj
  obtain ⟨q, hq, rfl⟩ := Option.map_eq_some_iff.1 hj
  exact ih j q v hq hv
 | agg cs vs hl hs' h ih =>
  rw [PV.map, PV.maps_eq]
  refine .agg _ vs (by simpa using hl) (fun p hp' => ?_) fun j p v hj hv => ?_
  ·obtain ⟨q, hq, rfl⟩ := List.mem_map.1 hp'
   exact PV.map_one hs1 hp1 q (hs' q hq)
  ·rw [List.getElem?_map] at hj
   obtain ⟨q, hq, rfl⟩ := Option.map_eq_some_iff.1 hj
   exact ih j q v hq hv
 | tup cs vs hl h ih =>
  rw [PV.map, PV.maps_eq]
  refine .tup _ vs (by simpa using hl) fun j p v hj hv => ?_
  rw [List.getElem?_map] at hj
  obtain ⟨q, hq, rfl⟩ := Option.map_eq_some_iff.1 hj
  exact ih j q v hq hv
def OM (μ : Mu) (R : Rows) (b : Nat) : Prop := ∃ t row l, R t = some row ∧ μ t = some l ∧ l.b = b
def Av (O : Nat → Prop) (μ : Mu) (R : Rows) (b : Nat) : Prop := O b ∨ OM μ R b
def D6 (w : World) (O : Nat → Prop) (μ : Mu) (R : Rows) (pr : Bool) (p : PV) (v : Value) : Prop := if pr = true then DZ w O p v else D8 w O μ R p v
def Lr (w : World) (O : Nat → Prop) (μ : Mu) (R : Rows) (row : Row) (l : Loc) : Prop :=
 ∃ arr ety fz, w.heap[l.b]? = some (.cells arr ety fz) ∧ l.base + l.room ≤ arr.size ∧ row.cs.length * row.sz ≤ l.room ∧
  (∀ j, l.base ≤ j → j < l.base + l.room → ¬ (fz.1 ≤ j ∧ j < fz.2)) ∧
  (∀ (i : Nat) (x : PV) (j : Nat) (p : PV), row.cs[i]? = some x → x.cells[j]? = some p → ∃ v, arr[l.base + (i * row.sz + j)]? = some v ∧ D6 w O μ R row.pr p v)
def IP (t : Nat) : Option Nat := bif Nat.ble 1000000 t then some (t / 1000000 - 1) else none
structure LZ (w : World) (O : Nat → Prop) (μ : Mu) (R : Rows) (t : Nat) (row : Row) : Prop where
 sz : 0 < row.sz
 el : ∀ x ∈ row.cs, x.cells.length = row.sz ∧ ∀ p ∈ x.cells, p.one = true
 non : μ t = none → row.cs = []
 lie : ∀ l, μ t = some l → Lr w O μ R row l
 ty : ∀ k, IP t = some k → ∀ l, μ t = some l → l.base = 0 ∧ ∃ arr fz, w.heap[l.b]? = some (.cells arr k fz) ∧ (row.pr = false → fz = (0, 0) ∧ arr.size = row.sz)
structure Fr (L : Nat → Prop) (w w' : World) : Prop where
 os : w'.os = w.os
 tape : w'.tape = w.tape
 output : w'.output = w.output
 size : w.heap.size ≤ w'.heap.size
 block : ∀ b, b < w.heap.size → ¬ L b → w'.heap[b]? = w.heap[b]?
theorem Fr.refl (L : Nat → Prop) (w : World) : Fr L w w := ⟨rfl, rfl, rfl, Nat.le_refl _, fun _ _ _ => rfl⟩
theorem Fr.trans {L : Nat → Prop} {a b c : World} (h : Fr L a b) {L' : Nat → Prop} (k : Fr L' b c) (hL : ∀ x, x < a.heap.size → L' x → L x) : Fr L a c :=
 ⟨k.os.trans h.os, k.tape.trans h.tape, k.output.trans h.output, Nat.le_trans h.size k.size,
  fun x hx hn => (k.block x (Nat.lt_of_lt_of_le hx h.size) (fun hl => hn (hL x hx hl))).trans (h.block x hx hn)⟩
theorem Fr.drew {L : Nat → Prop} {a w : World} (h : Fr L a w) : Fr L a w.drew := ⟨h.os, h.tape, h.output, h.size, h.block⟩
class BA where
 B : Nat → Prop
 ok : World → Prop
 stable : ∀ w w' : World, (∀ b, B b → w'.heap[b]? = w.heap[b]?) → ok w → ok w'
 low : ∀ (w : World) (b : Nat), ok w → B b → b < w.heap.size
structure Og [BA] (w : World) (O : Nat → Prop) : Prop where
 lt : ∀ b, O b → b < w.heap.size
 ok : BA.ok w
structure MN where
 f : Nat → Prop
 T : Nat → Bool
 μ : Mu
structure OutG [BA] (w0 : World) (O : Nat → Prop) (F : Nat → Prop) : Prop where
 lt : ∀ b, O b → b < w0.heap.size
 ok : BA.ok w0
 nl : ∀ b, BA.B b → ¬ F b
structure BJ [BA] (w0 : World) (O : Nat → Prop) (L : MN) (n : Nat) (μ : Mu) (st : St) (a : Act) (w : World) : Prop where
 dfr : a.defers = []
 size : a.tmps.size = n
 fr : Fr L.f w0 w
 out : OutG w0 O L.f
 slot : ∀ k p, st.s k = some p → ∃ v, a.tmps[k]? = some v ∧ D8 w (Av O μ st.r) μ st.r p v
 row : ∀ t row, st.r t = some row → LZ w (Av O μ st.r) μ st.r t row
 inj : ∀ t t' row row' l l', st.r t = some row → st.r t' = some row' → μ t = some l → μ t' = some l' → l.b = l'.b → t = t'
 own : ∀ t row l, st.r t = some row → μ t = some l → ¬ O l.b ∧ (w0.heap.size ≤ l.b ∨ L.f l.b)
 keep : ∀ t, L.T t = true → μ t = L.μ t ∧ ∃ row, st.r t = some row
theorem BJ.og [BA] {w0 w : World} {O : Nat → Prop} {L : MN} {n : Nat} {μ : Mu} {st : St} {a : Act} (h : BJ w0 O L n μ st a w) : Og w O :=
 ⟨fun b hb => Nat.lt_of_lt_of_le (h.out.lt b hb) h.fr.size, BA.stable w0 w (fun b hb => h.fr.block b (BA.low w0 b h.out.ok hb) (h.out.nl b hb)) h.out.ok⟩
theorem BJ.noB [BA] {w0 w : World} {O : Nat → Prop} {L : MN} {n : Nat} {μ : Mu} {st : St} {a : Act} (h : BJ w0 O L n μ st a w) {t : Nat} {row : Row} {l : Loc} (h1 : st.r t = some row) (h2 : μ t = some l) : ¬ BA.B l.b := by
 intro hb
 rcases (h.own t row l h1 h2).2 with h3 | h3
 ·have := BA.low w0 l.b h.out.ok hb
  omega
 ·exact h.out.nl l.b hb h3
end Go.Vd
end
section
set_option linter.unusedVariables false
set_option linter.unusedSimpArgs false
namespace Go.Vd
open Go.RowKit
section
variable {w0 : World} {O : Nat → Prop} {L : MN} {n : Nat} {μ : Mu} {st : St} {a : Act} {w : World}
theorem D6.rel {O : Nat → Prop} {R : Rows} {pr : Bool} {p : PV} {v : Value} (h : D6 w O μ R pr p v) : D8 w O μ R p v := by
 unfold D6 at h
 split at h
 ·exact .base _ _ h
 ·exact h
theorem D6.mono {w w' : World} {O O' : Nat → Prop} {μ μ' : Mu} {R R' : Rows} (f : Nat → Bool) (hw : ∀ b, b < w.heap.size → ¬ O b → w'.heap[b]? = w.heap[b]?)
  (hO : ∀ b, b < w.heap.size → O' b → O b)
  (he : ∀ t row, f t = true → R t = some row → μ' t = μ t ∧ ∃ row', R' t = some row' ∧ row'.sz = row.sz ∧ row.cs.length ≤ row'.cs.length)
  {pr : Bool} {p : PV} {v : Value} (h : D6 w O μ R pr p v) (hf : pr = true ∨ p.tk f = true) : D6 w' O' μ' R' pr p v := by
 unfold D6 at *
 split
 ·rename_i hp; rw [if_pos hp] at h; exact h.frame hw hO
 ·rename_i hp; rw [if_neg hp] at h; exact h.mono f hw hO he (hf.resolve_left hp)
theorem PV.tk_of_tks {f : Nat → Bool} {x : PV} (h : x.tk f = true) : ∀ p ∈ x.cells, p.tk f = true := by
 cases x <;> intro p hp <;> simp only [PV.cells, List.mem_singleton] at hp
 case agg cs => exact PV.tks_mem (by simpa [PV.tk] using h) p hp
 all_goals (subst hp; exact h)
def Row.tk (f : Nat → Bool) (row : Row) : Bool := row.pr || PV.tks f row.cs
theorem LZ.mono [BA] {w w' : World} {O O' : Nat → Prop} {μ μ' : Mu} {R R' : Rows} (f : Nat → Bool) (hw : ∀ b, b < w.heap.size → ¬ O b → w'.heap[b]? = w.heap[b]?)
  (hO : ∀ b, b < w.heap.size → O' b → O b)
  (he : ∀ t row, f t = true → R t = some row → μ' t = μ t ∧ ∃ row', R' t = some row' ∧ row'.sz = row.sz ∧ row.cs.length ≤ row'.cs.length)
  {t t' : Nat} {row : Row} (h : LZ w O μ R t row) (ht : μ' t' = μ t) (hb : ∀ l, μ t = some l → w'.heap[l.b]? = w.heap[l.b]?) (hf : row.tk f = true) (hty : IP t' = IP t := by rfl) : LZ w' O' μ' R' t' row := by
 refine ⟨h.sz, h.el, fun hn => h.non (ht ▸ hn), fun l hl => ?_, fun k hk l hl => ?_⟩
 rotate_left
 ·rw [ht] at hl
  obtain ⟨h1, arr, fz, h2, h3⟩ := h.ty k (hty ▸ hk) l hl
  exact ⟨h1, arr, fz, (hb l hl).trans h2, h3⟩
 rw [ht] at hl
 obtain ⟨arr, ety, fz, h1, h2, h3, h4, h5⟩ := h.lie l hl
 refine ⟨arr, ety, fz, (hb l hl).trans h1, h2, h3, h4, fun i x j p hi hj => ?_⟩
 obtain ⟨v, hv, hc⟩ := h5 i x j p hi hj
 refine ⟨v, hv, hc.mono f hw hO he ?_⟩
 unfold Row.tk at hf
 rw [Bool.or_eq_true] at hf
 exact hf.imp id fun hf => PV.tk_of_tks (PV.tks_mem hf x (List.mem_of_getElem? hi)) p (List.mem_of_getElem? hj)
theorem PV.tks_true [BA] : ∀ l : List PV, PV.tks (fun _ => true) l = true
 | [] => rfl
 | p :: r => by rw [PV.tks, PV.tk_true, PV.tks_true r]; rfl
theorem Row.tk_true [BA] (row : Row) : row.tk (fun _ => true) = true := by unfold Row.tk; rw [PV.tks_true]; simp
theorem BJ.block_lt [BA] (h : BJ w0 O L n μ st a w) {t : Nat} {row : Row} {l : Loc} (hr : st.r t = some row) (hl : μ t = some l) : l.b < w.heap.size := by
 obtain ⟨arr, ety, fz, h1, _⟩ := (h.row t row hr).lie l hl
 rcases Nat.lt_or_ge l.b w.heap.size with h' | h'
 ·exact h'
 ·rw [Array.getElem?_eq_none h'] at h1; cases h1
def St.put (st : St) (dst : Option Nat) (p : PV) : St :=
 match dst with
 | some d => ⟨upd st.s d (some p), st.r⟩
 | none => st
theorem St.put_r (st : St) (dst : Option Nat) (p : PV) : (st.put dst p).r = st.r := by cases dst <;> rfl
theorem BJ.put [BA] (h : BJ w0 O L n μ st a w) (dst : Option Nat) (hd : ∀ d, dst = some d → d < n) {p : PV} {v : Value} (hr : D8 w (Av O μ st.r) μ st.r p v) :
  BJ w0 O L n μ (st.put dst p) (a.put dst v) w := by
 cases dst with
 | none => exact h
 | some d =>
  have hdn := hd d rfl
  refine ⟨h.dfr, by simpa [Act.put] using h.size, h.fr, h.out, fun k q hk => ?_, h.row, h.inj, h.own, h.keep⟩
  by_cases hkd : k = d
  ·subst hkd
   simp only [St.put, upd_same, Option.some.injEq] at hk
   subst hk
   refine ⟨v, ?_, hr⟩
   simp [Act.put, h.size, hdn]
  ·simp only [St.put, upd_ne _ _ hkd] at hk
   obtain ⟨u, hu, hrel⟩ := h.slot k q hk
   refine ⟨u, ?_, hrel⟩
   simp only [Act.put]
   rw [Array.getElem?_setIfInBounds_ne (Ne.symm hkd)]
   exact hu
theorem BJ.drew [BA] (h : BJ w0 O L n μ st a w) : BJ w0 O L n μ st a w.drew := by
 refine ⟨h.dfr, h.size, h.fr.drew, h.out, fun k q hk => ?_, fun t row hr => ?_, h.inj, h.own, h.keep⟩
 ·obtain ⟨u, hu, hrel⟩ := h.slot k q hk
  exact ⟨u, hu, hrel.mono (w := w) (w' := w.drew) (fun _ => true) (fun _ _ _ => rfl) (fun _ _ h => h) (fun t row _ hr => ⟨rfl, row, hr, rfl, Nat.le_refl _⟩) (PV.tk_true _)⟩
 ·exact (h.row t row hr).mono (w := w) (w' := w.drew) (fun _ => true) (fun _ _ _ => rfl) (fun _ _ h => h) (fun t row _ hr => ⟨rfl, row, hr, rfl, Nat.le_refl _⟩) rfl (fun _ _ => rfl) (Row.tk_true _)
theorem BJ.canon [BA] (h : BJ w0 O L n μ st a w) {st' : St} (hs : ∀ k p, st'.s k = some p → st.s k = some p ∧ p.tk (fun t => (st'.r t).isSome) = true)
  (hr : ∀ t row, st'.r t = some row → st.r t = some row ∧ row.tk (fun t => (st'.r t).isSome) = true) (hT : ∀ t, L.T t = true → (st'.r t).isSome = true) : BJ w0 O L n μ st' a w := by
 have hO : ∀ b, b < w.heap.size → Av O μ st'.r b → Av O μ st.r b := by
  rintro b _ (h1 | ⟨t, row, l, h1, h2, h3⟩)
  ·exact .inl h1
  ·exact .inr ⟨t, row, l, (hr t row h1).1, h2, h3⟩
 have he : ∀ t row, (st'.r t).isSome = true → st.r t = some row → μ t = μ t ∧ ∃ row', st'.r t = some row' ∧ row'.sz = row.sz ∧ row.cs.length ≤ row'.cs.length := by
  intro t row ht h1
  obtain ⟨row', h2⟩ := Option.isSome_iff_exists.1 ht
  have h3 := (hr t row' h2).1
  rw [h1] at h3
  cases h3
  exact ⟨rfl, row, h2, rfl, Nat.le_refl _⟩
 refine ⟨h.dfr, h.size, h.fr, h.out, fun k q hk => ?_, fun t row ht => ?_, fun t t' row row' l l' h1 h2 => h.inj t t' row row' l l' (hr _ _ h1).1 (hr _ _ h2).1,
  fun t row l h1 => h.own t row l (hr _ _ h1).1, fun t ht => ⟨(h.keep t ht).1, Option.isSome_iff_exists.1 (hT t ht)⟩⟩
 ·obtain ⟨h1, h2⟩ := hs k q hk
  obtain ⟨u, hu, hrel⟩ := h.slot k q h1
  exact ⟨u, hu, hrel.mono _ (fun _ _ _ => rfl) hO he h2⟩
 ·obtain ⟨h1, h2⟩ := hr t row ht
  exact (h.row t row h1).mono _ (fun _ _ _ => rfl) hO he rfl (fun _ _ => rfl) h2
theorem BJ.noT [BA] (h : BJ w0 O L n μ st a w) {t : Nat} (ht : st.r t = none) : L.T t = false := by
 cases hT : L.T t with
 | false => rfl
 | true => obtain ⟨_, row, hr⟩ := h.keep t hT; rw [ht] at hr; cases hr
theorem BJ.keep_new [BA] (h : BJ w0 O L n μ st a w) {t : Nat} (ht : st.r t = none) (l : Option Loc) (row : Row) : ∀ u, L.T u = true → upd μ t l u = L.μ u ∧ ∃ r, upd st.r t (some row) u = some r := by
 intro u hu
 obtain ⟨h1, r, h2⟩ := h.keep u hu
 have hne : u ≠ t := fun e => by rw [e, ht] at h2; cases h2
 exact ⟨(upd_ne _ _ hne).trans h1, r, (upd_ne _ _ hne).trans h2⟩
theorem BJ.alloc [BA] (h : BJ w0 O L n μ st a w) (t : Nat) (ht : st.r t = none) (row : Row) (arr : Array Value) (ety : TypeId) (fz : Nat × Nat) (hsz : 0 < row.sz)
  (hel : ∀ x ∈ row.cs, x.cells.length = row.sz ∧ ∀ p ∈ x.cells, p.one = true) (hlen : row.cs.length * row.sz ≤ arr.size) (hfz : ∀ j, j < arr.size → ¬ (fz.1 ≤ j ∧ j < fz.2))
  (hty : ∀ k, IP t = some k → ety = k ∧ (row.pr = false → fz = (0, 0) ∧ arr.size = row.sz))
  (hc : ∀ (i : Nat) (x : PV) (j : Nat) (p : PV), row.cs[i]? = some x → x.cells[j]? = some p → ∃ v, arr[i * row.sz + j]? = some v ∧ D6 w (Av O μ st.r) μ st.r row.pr p v) :
  BJ w0 O L n (upd μ t (some ⟨w.heap.size, 0, arr.size⟩)) ⟨st.s, upd st.r t (some row)⟩ a (w.alloc (.cells arr ety fz)) := by
 have hw : ∀ b, b < w.heap.size → ¬ Av O μ st.r b → (w.alloc (.cells arr ety fz)).heap[b]? = w.heap[b]? := fun b hb _ => Below.heap_alloc _ _ _ hb
 have hO : ∀ b, b < w.heap.size → Av O (upd μ t (some ⟨w.heap.size, 0, arr.size⟩)) (upd st.r t (some row)) b → Av O μ st.r b := by
  rintro b hb (h1 | ⟨u, r, l, h1, h2, h3⟩)
  ·exact .inl h1
  ·by_cases hu : u = t
   ·subst hu
    rw [upd_same] at h2
    cases h2
    simp at h3
    omega
   ·rw [upd_ne _ _ hu] at h1 h2
    exact .inr ⟨u, r, l, h1, h2, h3⟩
 have he : ∀ u r, true = true → st.r u = some r → upd μ t (some ⟨w.heap.size, 0, arr.size⟩) u = μ u ∧ ∃ row', upd st.r t (some row) u = some row' ∧ row'.sz = r.sz ∧ r.cs.length ≤ row'.cs.length := by
  intro u r _ hu
  have hne : u ≠ t := fun e => by rw [e, ht] at hu; cases hu
  exact ⟨upd_ne _ _ hne, r, by rw [upd_ne _ _ hne]; exact hu, rfl, Nat.le_refl _⟩
 have hsize : (w.alloc (.cells arr ety fz)).heap.size = w.heap.size + 1 := World.size_alloc _ _
 refine ⟨h.dfr, h.size, h.fr.trans (L' := fun _ => False) ⟨rfl, rfl, rfl, by omega, fun b hb _ => Below.heap_alloc _ _ _ hb⟩ (fun _ _ h => h.elim), h.out, fun k q hk => ?_, fun u r hu => ?_, ?_, ?_, fun u hu => h.keep_new ht _ _ u hu⟩
 ·obtain ⟨v, hv, hrel⟩ := h.slot k q hk
  exact ⟨v, hv, hrel.mono (fun _ => true) hw hO he (PV.tk_true _)⟩
 ·by_cases hut : u = t
  ·subst hut
   simp only [upd_same, Option.some.injEq] at hu
   subst hu
   refine ⟨hsz, hel, (fun hn => by rw [upd_same] at hn; cases hn), fun l hl => ?_, fun k hk l hl => ?_⟩
   rotate_left
   ·rw [upd_same] at hl
    cases hl
    obtain ⟨rfl, h3⟩ := hty k hk
    exact ⟨rfl, arr, fz, (by show (w.heap.push _)[w.heap.size]? = _; simp), h3⟩
   rw [upd_same] at hl
   cases hl
   refine ⟨arr, ety, fz, (by show (w.heap.push _)[w.heap.size]? = _; simp), by simp, hlen, fun j _ hj => hfz j (by simpa using hj), fun i x j p hi hj => ?_⟩
   obtain ⟨v, hv, hcr⟩ := hc i x j p hi hj
   exact ⟨v, by simpa using hv, hcr.mono (fun _ => true) hw hO he (.inr (PV.tk_true _))⟩
  ·simp only [upd_ne _ _ hut] at hu
   exact (h.row u r hu).mono (fun _ => true) hw hO he (upd_ne _ _ hut) (fun l hl => Below.heap_alloc _ _ _ (h.block_lt hu hl)) (Row.tk_true _)
 ·intro u u' r r' l l' h1 h2 h3 h4 h5
  by_cases hu : u = t
  ·by_cases hu' : u' = t
   ·rw [hu, hu']
   ·subst hu
    simp only [upd_ne _ _ hu'] at h2 h4
    rw [upd_same] at h3
    cases h3
    have := h.block_lt h2 h4
    simp at h5
    omega
  ·simp only [upd_ne _ _ hu] at h1 h3
   by_cases hu' : u' = t
   ·subst hu'
    rw [upd_same] at h4
    cases h4
    have := h.block_lt h1 h3
    simp at h5
    omega
   ·simp only [upd_ne _ _ hu'] at h2 h4
    exact h.inj u u' r r' l l' h1 h2 h3 h4 h5
 ·intro u r l h1 h2
  by_cases hu : u = t
  ·subst hu
   rw [upd_same] at h2
   cases h2
   exact ⟨fun hO' => by have := h.out.lt _ hO'; have := h.fr.size; simp at *; omega, .inl h.fr.size⟩
  ·simp only [upd_ne _ _ hu] at h1 h2
   exact h.own u r l h1 h2
theorem BJ.empty [BA] (h : BJ w0 O L n μ st a w) (t : Nat) (ht : st.r t = none) (sz : Nat) (hsz : 0 < sz) (pr : Bool) :
  BJ w0 O L n (upd μ t none) ⟨st.s, upd st.r t (some ⟨sz, pr, []⟩)⟩ a w := by
 have hO : ∀ b, b < w.heap.size → Av O (upd μ t none) (upd st.r t (some ⟨sz, pr, []⟩)) b → Av O μ st.r b := by
  rintro b hb (h1 | ⟨u, r, l, h1, h2, h3⟩)
  ·exact .inl h1
  ·by_cases hu : u = t
   ·subst hu; rw [upd_same] at h2; cases h2
   ·rw [upd_ne _ _ hu] at h1 h2
    exact .inr ⟨u, r, l, h1, h2, h3⟩
 have he : ∀ u r, true = true → st.r u = some r → upd μ t none u = μ u ∧ ∃ row', upd st.r t (some ⟨sz, pr, []⟩) u = some row' ∧ row'.sz = r.sz ∧ r.cs.length ≤ row'.cs.length := by
  intro u r _ hu
  have hne : u ≠ t := fun e => by rw [e, ht] at hu; cases hu
  exact ⟨upd_ne _ _ hne, r, by rw [upd_ne _ _ hne]; exact hu, rfl, Nat.le_refl _⟩
 refine ⟨h.dfr, h.size, h.fr, h.out, fun k q hk => ?_, fun u r hu => ?_, ?_, ?_, fun u hu => h.keep_new ht _ _ u hu⟩
 ·obtain ⟨v, hv, hrel⟩ := h.slot k q hk
  exact ⟨v, hv, hrel.mono (fun _ => true) (fun _ _ _ => rfl) hO he (PV.tk_true _)⟩
 ·by_cases hut : u = t
  ·subst hut
   simp only [upd_same, Option.some.injEq] at hu
   subst hu
   exact ⟨hsz, (fun x hx => by cases hx), (fun _ => rfl), (fun l hl => by rw [upd_same] at hl; cases hl), (fun _ _ l hl => by rw [upd_same] at hl; cases hl)⟩
  ·simp only [upd_ne _ _ hut] at hu
   exact (h.row u r hu).mono (fun _ => true) (fun _ _ _ => rfl) hO he (upd_ne _ _ hut) (fun l hl => rfl) (Row.tk_true _)
 ·intro u u' r r' l l' h1 h2 h3 h4 h5
  have hu : u ≠ t := fun e => by rw [e, upd_same] at h3; cases h3
  have hu' : u' ≠ t := fun e => by rw [e, upd_same] at h4; cases h4
  simp only [upd_ne _ _ hu] at h1 h3
  simp only [upd_ne _ _ hu'] at h2 h4
  exact h.inj u u' r r' l l' h1 h2 h3 h4 h5
 ·intro u r l h1 h2
  have hu : u ≠ t := fun e => by rw [e, upd_same] at h2; cases h2
  simp only [upd_ne _ _ hu] at h1 h2
  exact h.own u r l h1 h2
theorem BJ.write [BA] (h : BJ w0 O L n μ st a w) {t : Nat} {row : Row} {l : Loc} (ht : st.r t = some row) (hl : μ t = some l) {w' : World} (hfr : Fr (fun b => b = l.b) w w')
  (row' : Row) (hsame : ∀ arr ety fz, w.heap[l.b]? = some (.cells arr ety fz) → ∃ arr', w'.heap[l.b]? = some (.cells arr' ety fz) ∧ arr'.size = arr.size) (hprr : row'.pr = row.pr) (hsz : row'.sz = row.sz) (hlen : row'.cs.length = row.cs.length)
  (hel : ∀ x ∈ row'.cs, x.cells.length = row.sz ∧ ∀ p ∈ x.cells, p.one = true)
  (hlie : ∃ arr ety fz, w'.heap[l.b]? = some (.cells arr ety fz) ∧ l.base + l.room ≤ arr.size ∧ (∀ j, l.base ≤ j → j < l.base + l.room → ¬ (fz.1 ≤ j ∧ j < fz.2)) ∧
   (∀ (i : Nat) (x : PV) (j : Nat) (p : PV), row'.cs[i]? = some x → x.cells[j]? = some p → ∃ v, arr[l.base + (i * row.sz + j)]? = some v ∧ D6 w (Av O μ st.r) μ st.r row'.pr p v)) :
  BJ w0 O L n μ ⟨st.s, upd st.r t (some row')⟩ a w' := by
 have hOw : OM μ st.r l.b := ⟨t, row, l, ht, hl, rfl⟩
 have hw : ∀ b, b < w.heap.size → ¬ Av O μ st.r b → w'.heap[b]? = w.heap[b]? := fun b hb hn => hfr.block b hb fun e => hn (.inr (e ▸ hOw))
 have hO : ∀ b, b < w.heap.size → Av O μ (upd st.r t (some row')) b → Av O μ st.r b := by
  rintro b hb (h1 | ⟨u, r, l', h1, h2, h3⟩)
  ·exact .inl h1
  ·by_cases hu : u = t
   ·subst hu; exact .inr ⟨u, row, l', ht, h2, h3⟩
   ·rw [upd_ne _ _ hu] at h1
    exact .inr ⟨u, r, l', h1, h2, h3⟩
 have he : ∀ u r, true = true → st.r u = some r → μ u = μ u ∧ ∃ row'', upd st.r t (some row') u = some row'' ∧ row''.sz = r.sz ∧ r.cs.length ≤ row''.cs.length := by
  intro u r _ hu
  by_cases hut : u = t
  ·subst hut
   rw [ht] at hu
   cases hu
   exact ⟨rfl, row', upd_same _ _ _, hsz, by omega⟩
  ·exact ⟨rfl, r, by rw [upd_ne _ _ hut]; exact hu, rfl, Nat.le_refl _⟩
 refine ⟨h.dfr, h.size, h.fr.trans hfr (fun x hx e => ?_), h.out, fun k q hk => ?_, fun u r hu => ?_, ?_, ?_, fun u hu => ⟨(h.keep u hu).1, ?_⟩⟩
 ·subst e
  rcases (h.own t row l ht hl).2 with h1 | h1
  ·omega
  ·exact h1
 ·obtain ⟨v, hv, hrel⟩ := h.slot k q hk
  exact ⟨v, hv, hrel.mono (fun _ => true) hw hO he (PV.tk_true _)⟩
 ·by_cases hut : u = t
  ·subst hut
   simp only [upd_same, Option.some.injEq] at hu
   subst hu
   obtain ⟨arr, ety, fz, h1, h2, h3, h4⟩ := hlie
   refine ⟨by rw [hsz]; exact (h.row u row ht).sz, by rw [hsz]; exact hel, (fun hn => by rw [hl] at hn; cases hn), fun l' hl' => ?_, fun k hk l' hl' => ?_⟩
   rotate_left
   ·rw [hl] at hl'
    cases hl'
    obtain ⟨g1, arr0, fz0, g2, g3⟩ := (h.row u row ht).ty k hk l hl
    obtain ⟨arr', g4, g5⟩ := hsame arr0 k fz0 g2
    exact ⟨g1, arr', fz0, g4, fun hp => by obtain ⟨g6, g7⟩ := g3 (hprr ▸ hp); exact ⟨g6, by rw [g5, g7, hsz]⟩⟩
   rw [hl] at hl'
   cases hl'
   obtain ⟨arr0, ety0, fz0, g1, g2, g3, g4, g5⟩ := (h.row u row ht).lie l hl
   refine ⟨arr, ety, fz, h1, h2, by rw [hlen, hsz]; exact g3, h3, fun i x j p hi hj => ?_⟩
   obtain ⟨v, hv, hcr⟩ := h4 i x j p hi hj
   exact ⟨v, by rw [hsz]; exact hv, hcr.mono (fun _ => true) hw hO he (.inr (PV.tk_true _))⟩
  ·simp only [upd_ne _ _ hut] at hu
   refine (h.row u r hu).mono (fun _ => true) hw hO he rfl (fun l' hl' => hfr.block _ (h.block_lt hu hl') fun e => hut ?_) (Row.tk_true _)
   exact h.inj u t r row l' l hu ht hl' hl e
 ·intro u u' r r' l1 l2 h1 h2 h3 h4 h5
  have g : ∀ v s, upd st.r t (some row') v = some s → ∃ s', st.r v = some s' := by
   intro v s hv
   by_cases hvt : v = t
   ·subst hvt; exact ⟨row, ht⟩
   ·rw [upd_ne _ _ hvt] at hv; exact ⟨s, hv⟩
  obtain ⟨s, hs⟩ := g u r h1
  obtain ⟨s', hs'⟩ := g u' r' h2
  exact h.inj u u' s s' l1 l2 hs hs' h3 h4 h5
 ·intro u r l' h1 h2
  by_cases hut : u = t
  ·subst hut; exact h.own u row l' ht h2
  ·simp only [upd_ne _ _ hut] at h1
   exact h.own u r l' h1 h2
 ·obtain ⟨_, r, hr⟩ := h.keep u hu
  by_cases hut : u = t
  ·subst hut; exact ⟨row', upd_same _ _ _⟩
  ·exact ⟨r, (upd_ne _ _ hut).trans hr⟩
end
inductive DD where
 | t (n : Nat)
 | c (p : PV)
def DD.ev (s : EY) : DD → Option PV
 | .t n => s n
 | .c p => some p
mutual
def PK : Value → Option PV
 | .int k n => some (.int k n)
 | .bool b => some (.bool b)
 | .string s => some (.str s.data.toList)
 | .slice none 0 0 => some .nl
 | .pointer none => some .nilp
 | .nilFunc => some .nilf
 | .nilIface => some .nili
 | .agg cs => (fZ cs.toList).map .agg
 | _ => none
def fZ : List Value → Option (List PV)
 | [] => some []
 | v :: r => match PK v, fZ r with
  | some p, some q => if p.one then some (p :: q) else none
  | _, _ => none
end
def I6 : Operand → Option DD
 | .tmp t => some (.t t)
 | .const v => (PK v).map .c
 | .func f => some (.c (.clo f []))
 | .global _ => none
def OE : List Operand → Option (List DD)
 | [] => some []
 | x :: r => match I6 x, OE r with
  | some y, some q => some (y :: q)
  | _, _ => none
def ZA : Option Operand → Option (Option DD)
 | none => some none
 | some x => (I6 x).map some
def kT (op : BinOp) (k : IntKind) (x y : Int) : Option Int :=
 match op with
 | .and => some (k.wrap ((BitVec.ofInt k.bits x &&& BitVec.ofInt k.bits y).toNat : Int))
 | .or => some (k.wrap ((BitVec.ofInt k.bits x ||| BitVec.ofInt k.bits y).toNat : Int))
 | .xor => some (k.wrap ((BitVec.ofInt k.bits x ^^^ BitVec.ofInt k.bits y).toNat : Int))
 | .andNot => some (k.wrap ((BitVec.ofInt k.bits x &&& ~~~ BitVec.ofInt k.bits y).toNat : Int))
 | _ => none
def wW (op : BinOp) (k : IntKind) (a b : Int) : Option PV :=
 match op with
 | .add => some (.int k (k.wrap (a + b)))
 | .sub => some (.int k (k.wrap (a - b)))
 | .mul => some (.int k (k.wrap (a * b)))
 | .quo => if b = 0 then none else some (.int k (k.wrap (a.tdiv b)))
 | .rem => if b = 0 then none else some (.int k (a.tmod b))
 | .eql => some (.bool (a == b))
 | .neq => some (.bool (a != b))
 | .lss => some (.bool (decide (a < b)))
 | .leq => some (.bool (decide (a ≤ b)))
 | .gtr => some (.bool (decide (a > b)))
 | .geq => some (.bool (decide (a ≥ b)))
 | .shl | .shr => none
 | op => (kT op k a b).map (.int k)
def bI (op : BinOp) (k : IntKind) (a b : Int) : Option PV :=
 if b < 0 then none else
 match op with
 | .shl => some (.int k (k.wrap (a * 2 ^ min b.toNat k.bits)))
 | .shr => some (.int k (a.fdiv (2 ^ min b.toNat k.bits)))
 | _ => none
def Gb (op : BinOp) (a b : List UInt8) : Option PV :=
 match op with
 | .add => if a.length + b.length ≤ 9223372036854775807 then some (.str (a ++ b)) else none
 | .eql => some (.bool (a == b))
 | .neq => some (.bool (!(a == b)))
 | .lss => some (.bool (Op.bytesLess a b))
 | .leq => some (.bool (Op.bytesLess a b || a == b))
 | .gtr => some (.bool (!(Op.bytesLess a b || a == b)))
 | .geq => some (.bool (!Op.bytesLess a b))
 | _ => none
def NY : BinOp → Bool
 | .shl | .shr => true
 | _ => false
def YR (op : BinOp) : PV → PV → Option PV
 | .int k a, .int k' b => if NY op then bI op k a b else if k = k' then wW op k a b else none
 | .str a, .str b => if NY op then none else Gb op a b
 | _, _ => none
def unv (op : UnOp) : PV → Option PV
 | .int k n => match op with
  | .neg => some (.int k (k.wrap (0 - n)))
  | .xor => (kT .xor k (if k.signed then -1 else k.max) n).map (.int k)
  | _ => none
 | .bool b => match op with
  | .not => some (.bool (!b))
  | _ => none
 | _ => none
section
variable {w : World} {O : Nat → Prop} {μ : Mu} {R : Rows}
theorem Em (s : ByteArray) : (⟨s.data.toList.toArray⟩ : ByteArray) = s := by cases s; rfl
mutual
theorem bY [BA] : ∀ (v : Value) (p : PV), PK v = some p → DZ w O p v
 | .int k n, p, h => by rw [PK] at h; cases h; exact .int k n
 | .bool b, p, h => by rw [PK] at h; cases h; exact .bool b
 | .string s, p, h => by
  rw [PK] at h
  cases h
  have := DZ.str (w := w) (O := O) s.data.toList
  rwa [Em] at this
 | .slice A l c, p, h => by
  cases A with
  | some a => simp [PK] at h
  | none =>
   cases l with
   | succ l => simp [PK] at h
   | zero => cases c with
    | succ c => simp [PK] at h
    | zero => rw [PK] at h; cases h; exact .nl
 | .pointer A, p, h => by
  cases A with
  | some a => simp [PK] at h
  | none => rw [PK] at h; cases h; exact .nilp
 | .nilFunc, p, h => by rw [PK] at h; cases h; exact .nilf
 | .nilIface, p, h => by rw [PK] at h; cases h; exact .nili
 | .agg cs, p, h => by
  rw [PK] at h
  obtain ⟨q, hq, rfl⟩ := Option.map_eq_some_iff.1 h
  obtain ⟨h1, h2, h3⟩ := fV cs.toList q hq
  have := DZ.agg (w := w) (O := O) q cs.toList h1 h2 h3
  rwa [Array.toArray_toList] at this
 | .float _ _, p, h => by simp [PK] at h
 | .complex _ _ _, p, h => by simp [PK] at h
 | .map _, p, h => by simp [PK] at h
 | .chan _, p, h => by simp [PK] at h
 | .func _ _ _, p, h => by simp [PK] at h
 | .iface _ _, p, h => by simp [PK] at h
 | .tuple _, p, h => by simp [PK] at h
theorem fV [BA] : ∀ (l : List Value) (q : List PV), fZ l = some q → l.length = q.length ∧ (∀ p ∈ q, p.one = true) ∧ ∀ (j : Nat) (p : PV) (v : Value), q[j]? = some p → l[j]? = some v → DZ w O p v
 | [], q, h => by
  rw [fZ] at h
  cases h
  exact ⟨rfl, (fun p hp => by cases hp), (fun j p v hj _ => by simp at hj)⟩
 | v :: r, q, h => by
  rw [fZ] at h
  cases hv : PK v with
  | none => simp [hv] at h
  | some p =>
   cases hr : fZ r with
   | none => simp [hv, hr] at h
   | some q' =>
    simp only [hv, hr] at h
    split at h
    ·rename_i hone
     cases h
     obtain ⟨h1, h2, h3⟩ := fV r q' hr
     refine ⟨by simp [h1], ?_, ?_⟩
     ·intro x hx
      rcases List.mem_cons.1 hx with e | e
      ·rw [e]; exact hone
      ·exact h2 x e
     ·intro j x u hj hu
      cases j with
      | zero => simp at hj hu; subst hj; subst hu; exact bY v p hv
      | succ j => exact h3 j x u (by simpa using hj) (by simpa using hu)
    ·cases h
end
theorem xM {a : Act} {t : Nat} {v : Value} (h : a.tmps[t]? = some v) : a.eval (.tmp t) = v := by
 obtain ⟨hlt, h⟩ := Array.getElem?_eq_some_iff.1 h
 simp [Act.eval, Array.getD, hlt, h]
theorem CR [BA] {s : EY} {a : Act} (hs : ∀ k p, s k = some p → ∃ v, a.tmps[k]? = some v ∧ D8 w O μ R p v) {x : Operand} {y : DD} (h : I6 x = some y) {p : PV} (hp : y.ev s = some p) :
  D8 w O μ R p (a.eval x) := by
 cases x with
 | tmp t =>
  cases h
  obtain ⟨v, hv, hr⟩ := hs t p hp
  rw [xM hv]
  exact hr
 | const v =>
  obtain ⟨q, hq, rfl⟩ := Option.map_eq_some_iff.1 h
  cases hp
  exact .base _ _ (bY v p hq)
 | global g => cases h
 | func f =>
  cases h
  cases hp
  exact .base _ _ (.clo f [] [] rfl (fun j p v hj _ => by simp at hj))
theorem D8.int_inv {k : IntKind} {n : Int} {v : Value} (h : D8 w O μ R (.int k n) v) : v = .int k n := by
 cases h with | base _ _ h => cases h; rfl
theorem D8.bool_inv {b : Bool} {v : Value} (h : D8 w O μ R (.bool b) v) : v = .bool b := by
 cases h with | base _ _ h => cases h; rfl
theorem D8.str_inv {s : List UInt8} {v : Value} (h : D8 w O μ R (.str s) v) : v = .string ⟨s.toArray⟩ := by
 cases h with | base _ _ h => cases h; rfl
theorem Z9 {P : Program} {op : BinOp} {k : IntKind} {a b n : Int} (h : kT op k a b = some n) : (Op.intBits op k a b).run P w = .ok (.int k n) w := by
 cases op <;> simp only [kT] at h <;> cases h <;> rfl
theorem Di [BA] {P : Program} (op : BinOp) (t : TypeId) {p q r : PV} (h : YR op p q = some r) {u v : Value} (hu : D8 w O μ R p u) (hv : D8 w O μ R q v) :
  ∃ x, (binOp op t u v).run P w = .ok x w ∧ DZ w O r x := by
 cases p <;> cases q <;> simp only [YR] at h <;> try cases h
 case int.int k a k' b =>
  cases hu.int_inv
  cases hv.int_inv
  split at h
  ·rename_i hs
   unfold bI at h
   split at h
   ·cases h
   ·rename_i hb
    cases op <;> simp [NY] at hs <;> simp at h <;> subst h
    ·exact ⟨_, by simp [binOp, Op.shift, hb], .int _ _⟩
    ·exact ⟨_, by simp [binOp, Op.shift, hb], .int _ _⟩
  ·rename_i hs
   split at h
   ·rename_i hk
    subst hk
    cases op <;> simp [NY] at hs <;> simp [wW] at h
    case add => subst h; exact ⟨_, by simp [binOp, Op.intArith], .int _ _⟩
    case sub => subst h; exact ⟨_, by simp [binOp, Op.intArith], .int _ _⟩
    case mul => subst h; exact ⟨_, by simp [binOp, Op.intArith], .int _ _⟩
    case quo => obtain ⟨h0, h⟩ := h; subst h; exact ⟨_, by simp [binOp, Op.intDiv, h0], .int _ _⟩
    case rem => obtain ⟨h0, h⟩ := h; subst h; exact ⟨_, by simp [binOp, Op.intDiv, h0], .int _ _⟩
    case eql => subst h; exact ⟨_, by simp [binOp, Op.intCmp], .bool _⟩
    case neq => subst h; exact ⟨_, by simp [binOp, Op.intCmp], .bool _⟩
    case lss => subst h; exact ⟨_, by simp [binOp, Op.intCmp], .bool _⟩
    case leq => subst h; exact ⟨_, by simp [binOp, Op.intCmp], .bool _⟩
    case gtr => subst h; exact ⟨_, by simp [binOp, Op.intCmp], .bool _⟩
    case geq => subst h; exact ⟨_, by simp [binOp, Op.intCmp], .bool _⟩
    all_goals
     obtain ⟨n, hn, rfl⟩ := h
     exact ⟨_, by simp only [binOp]; simpa using Z9 hn, .int _ _⟩
   ·cases h
 case str.str a b =>
  cases hu.str_inv
  cases hv.str_inv
  split at h
  ·cases h
  ·rename_i hs
   cases op <;> simp [NY] at hs <;> simp [Gb] at h
   case add =>
    obtain ⟨h0, h⟩ := h
    subst h
    refine ⟨_, ?_, .str _⟩
    simp only [binOp]
    rw [run_string_add_sum _ _ _ (by simpa [ByteArray.size] using h0), ByteArray.mk_append_mk]
   case eql => subst h; exact ⟨_, by simp [binOp, Op.stringOp], .bool _⟩
   case neq => subst h; exact ⟨_, by simp [binOp, Op.stringOp], .bool _⟩
   case lss => subst h; exact ⟨_, by simp [binOp, Op.stringOp], .bool _⟩
   case leq => subst h; exact ⟨_, by simp [binOp, Op.stringOp], .bool _⟩
   case gtr => subst h; exact ⟨_, by simp [binOp, Op.stringOp], .bool _⟩
   case geq => subst h; exact ⟨_, by simp [binOp, Op.stringOp], .bool _⟩
theorem dU [BA] {P : Program} (op : BinOp) (t : TypeId) (x y : Operand) {p q r : PV} (h : YR op p q = some r) {u v : Value} (hu : D8 w O μ R p u) :
  (eqGuard op t x y u v).run P w = .ok () w := by
 cases p <;> cases q <;> simp only [YR] at h <;> try cases h
 case int.int => cases hu.int_inv; simp [eqGuard_at_int]
 case str.str => cases hu.str_inv; simp [eqGuard_at_string]
theorem Fv [BA] {P : Program} (op : UnOp) {p r : PV} (h : unv op p = some r) {u : Value} (hu : D8 w O μ R p u) : ∃ x, (Op.unary op u).run P w = .ok x w ∧ DZ w O r x := by
 cases p <;> simp only [unv] at h <;> try cases h
 case int k n =>
  cases hu.int_inv
  cases op <;> simp at h
  ·subst h; exact ⟨_, by simp [Op.unary, Op.intArith], .int _ _⟩
  ·obtain ⟨m, hm, rfl⟩ := h
   exact ⟨_, by simp only [Op.unary]; exact Z9 hm, .int _ _⟩
 case bool b =>
  cases hu.bool_inv
  cases op <;> simp at h
  subst h; exact ⟨_, by simp [Op.unary], .bool _⟩
end
inductive CK where
 | i (k : IntKind)
 | s
 | b
inductive KY where
 | mov (x : DD)
 | pick (c a b : DD)
 | bin (op : BinOp) (x y : DD)
 | beq (ne : Bool) (x y : DD)
 | eqs (ne : Bool) (ks : List CK) (x y : DD)
 | eqn (ne : Bool) (x y : DD)
 | eqi (ne : Bool) (x : DD)
 | un (op : UnOp) (x : DD)
 | cvi (k : IntKind) (x : DD)
 | cvt (x : DD)
 | cvb (x : DD)
 | build (z : List PV) (parts : List (Nat × Nat × DD))
 | fld (off sz : Nat) (ag : Bool) (x : DD)
 | idxs (x i : DD)
 | idxa (n sz : Nat) (ag : Bool) (x i : DD)
 | slcs (x : DD) (lo hi : Option DD)
 | slcl (sz : Nat) (x : DD) (lo hi : Option DD)
 | slap (n : Nat) (x : DD)
 | ext (i : Nat) (x : DD)
 | len (st : Bool) (x : DD)
 | mkf (f : FuncId) (caps : List DD)
 | mki (t : TypeId) (x : DD)
 | mm (mx : Bool) (x : DD) (xs : List DD)
 | nck (x : DD)
 | fda (off : Nat) (x : DD)
 | ixp (sz : Nat) (x i : DD)
 | ixq (n sz : Nat) (x i : DD)
 | load (sz : Nat) (ag : Bool) (x : DD)
 | box (e : Nat) (x : DD)
 | bsl (sz : Nat) (parts : List DD)
 | cvs (x : DD)
 | mks (sz bytes : Nat) (z : PV) (n : DD)
 | store (sz : Nat) (a x : DD)
 | app (e sz bytes : Nat) (x y : DD)
 | aps (e : Nat) (x y : DD)
 | call (f : FuncId) (args : List DD)
 | calv (f : DD) (args : List DD)
def evs (s : EY) : List DD → Option (List PV)
 | [] => some []
 | x :: r => match x.ev s, evs s r with
  | some p, some q => some (p :: q)
  | _, _ => none
def bT (s : EY) : Option DD → Option (Option PV)
 | none => some none
 | some x => (x.ev s).map some
def PV.u8 : PV → Option UInt8
 | .int _ n => some (UInt8.ofNat n.toNat)
 | _ => none
def PV.isU8 : PV → Bool
 | .int .u8 _ => true
 | _ => false
def PV.byte : PV → UInt8
 | .int _ n => UInt8.ofNat n.toNat
 | _ => 0
def Eh : CK → PV → PV → Option Bool
 | .i k, .int k1 a, .int k2 b => if k1 = k ∧ k2 = k then some (a == b) else none
 | .s, .str a, .str b => some (a == b)
 | .b, .bool a, .bool b => some (a == b)
 | _, _, _ => none
def RO : List CK → List PV → List PV → Option Bool
 | [], [], [] => some true
 | k :: ks, x :: r, y :: q => match Eh k x y, RO ks r q with
  | some a, some b => some (a && b)
  | _, _ => none
 | _, _, _ => none
def dH (ne b : Bool) : Bool := bif ne then !b else b
def Dj (ne : Bool) : PV → PV → Option PV
 | .bool a, .bool b => some (.bool (dH ne (a == b)))
 | _, _ => none
def eqsv (ne : Bool) (ks : List CK) : PV → PV → Option PV
 | .agg xs, .agg ys => (RO ks xs ys).map fun b => .bool (dH ne b)
 | _, _ => none
def Ct (ne : Bool) : PV → PV → Option PV
 | .nilp, .nilp => some (.bool (dH ne true))
 | .ptr _ _ _, .nilp => some (.bool (dH ne false))
 | .ep _, .nilp => some (.bool (dH ne false))
 | _, _ => none
def Cv (ne : Bool) : PV → Option PV
 | .nili => some (.bool (dH ne true))
 | .ifc _ _ => some (.bool (dH ne false))
 | .err _ b => some (.bool (bif ne then b else !b))
 | _ => none
def Cx (k : IntKind) : PV → Option PV
 | .int _ n => some (.int k (k.wrap n))
 | _ => none
def cvtv : PV → Option PV
 | .str s => some (.str s)
 | _ => none
def dV (R : Rows) : PV → Option PV
 | .nl => some (.str [])
 | .sl sz xs => if sz = 1 ∧ xs.all PV.isU8 = true then some (.str (xs.map PV.byte)) else none
 | .slr t lo n => match R t with
  | some row => if row.pr = true ∧ row.sz = 1 ∧ ((row.cs.drop lo).take n).all PV.isU8 = true then some (.str (((row.cs.drop lo).take n).map PV.byte)) else none
  | none => none
 | _ => none
def lay (z : List PV) : List (Nat × Nat × DD) → EY → Option (List PV)
 | [], _ => some z
 | (off, sz, x) :: r, s => match x.ev s with
  | some p => if p.cells.length = sz ∧ off + sz ≤ z.length ∧ p.cells.all PV.one = true then lay (z.take off ++ p.cells ++ z.drop (off + sz)) r s else none
  | none => none
def U4 (off sz : Nat) (ag : Bool) (cs : List PV) : Option PV :=
 bif ag then some (.agg ((cs.drop off).take sz)) else cs[off]?
def Kl (off sz : Nat) (ag : Bool) : PV → Option PV
 | .agg cs => U4 off sz ag cs
 | _ => none
def qO : PV → PV → Option PV
 | .str s, .int _ i => if 0 ≤ i then (s[i.toNat]?).map fun b => .int .u8 (b.toNat : Int) else none
 | _, _ => none
def wU (n sz : Nat) (ag : Bool) : PV → PV → Option PV
 | .agg cs, .int _ i => if 0 ≤ i ∧ i < (n : Int) then U4 (i.toNat * sz) sz ag cs else none
 | _, _ => none
def bounds (n : Nat) : Option PV → Option PV → Option (Nat × Nat)
 | none, none => some (0, n)
 | some (.int _ l), none => if 0 ≤ l ∧ l ≤ (n : Int) then some (l.toNat, n) else none
 | none, some (.int _ h) => if 0 ≤ h ∧ h ≤ (n : Int) then some (0, h.toNat) else none
 | some (.int _ l), some (.int _ h) => if 0 ≤ l ∧ l ≤ h ∧ h ≤ (n : Int) then some (l.toNat, h.toNat) else none
 | _, _ => none
def eT (lo hi : Option PV) : PV → Option PV
 | .str s => (bounds s.length lo hi).map fun (l, h) => .str ((s.take h).drop l)
 | _ => none
def TZ (R : Rows) (sz : Nat) (lo hi : Option PV) : PV → Option PV
 | .nl => (bounds 0 lo hi).map fun _ => .nl
 | .sl sz' xs => if sz' = sz then (bounds xs.length lo hi).map fun (l, h) => .sl sz ((xs.take h).drop l) else none
 | .slr t o n => match R t with
  | some row => if row.sz = sz then (bounds n lo hi).map fun (l, h) => .slr t (o + l) (h - l) else none
  | none => none
 | _ => none
def uK (n : Nat) : PV → Option PV
 | .ep cs => if cs.length = n then some (.sl 1 cs) else none
 | _ => none
def Km (i : Nat) : PV → Option PV
 | .tup vs => vs[i]?
 | _ => none
def vO : PV → Option PV
 | .str s => some (.int .i64 (s.length : Int))
 | _ => none
def pO : PV → Option PV
 | .sl _ xs => some (.int .i64 (xs.length : Int))
 | .slr _ _ n => some (.int .i64 (n : Int))
 | .nl => some (.int .i64 0)
 | _ => none
def lenv (st : Bool) (p : PV) : Option PV := bif st then vO p else pO p
def mkiv (t : TypeId) : PV → Option PV
 | .int k n => some (.ifc t (.int k n))
 | .str s => some (.ifc t (.str s))
 | .bool b => some (.ifc t (.bool b))
 | _ => none
def mmv (mx : Bool) : PV → List PV → Option PV
 | x, [] => some x
 | .int k a, .int k' b :: r => if k = k' then mmv mx (.int k (bif mx then (if b > a then b else a) else (if b < a then b else a))) r else none
 | _, _ => none
def Bc : PV → Option PV
 | .ptr t i o => some (.ptr t i o)
 | .ep cs => some (.ep cs)
 | .clo f caps => some (.clo f caps)
 | _ => none
def dS (R : Rows) (off : Nat) : PV → Option PV
 | .ptr t i o => match R t with
  | some row => if o + off < row.sz then some (.ptr t i (o + off)) else none
  | none => none
 | .ep cs => if off < cs.length then some (.ep (cs.drop off)) else none
 | _ => none
def bH (R : Rows) (sz : Nat) : PV → PV → Option PV
 | .sl sz' xs, .int _ i => if sz' = sz ∧ 0 ≤ i then (xs[i.toNat]?).map fun x => .ep x.cells else none
 | .slr t lo n, .int _ i => match R t with
  | some row => if row.sz = sz ∧ 0 ≤ i ∧ i < (n : Int) then some (.ptr t (lo + i.toNat) 0) else none
  | none => none
 | _, _ => none
def dR (R : Rows) (n sz : Nat) : PV → PV → Option PV
 | .ptr t i o, .int _ j => match R t with
  | some row => if 0 ≤ j ∧ j < (n : Int) ∧ o + j.toNat * sz < row.sz then some (.ptr t i (o + j.toNat * sz)) else none
  | none => none
 | .ep cs, .int _ j => if 0 ≤ j ∧ j < (n : Int) ∧ j.toNat * sz < cs.length then some (.ep (cs.drop (j.toNat * sz))) else none
 | _, _ => none
def U5 (R : Rows) (sz : Nat) (ag : Bool) : PV → Option PV
 | .ptr t i o => match R t with
  | some row => match row.cs[i]? with
   | some x => if ag = true ∧ x.cells.length < o + sz then none else U4 o sz ag x.cells
   | none => none
  | none => none
 | .ep cs => if ag = true ∧ cs.length < sz then none else U4 0 sz ag cs
 | _ => none
def OC (f : PV → PV → Option PV) (x y : Option PV) : Option PV :=
 match x, y with
 | some p, some q => f p q
 | _, _ => none
def pop (s : EY) (R : Rows) : KY → Option PV
 | .mov x => x.ev s
 | .pick c a b => match c.ev s with
  | some (.bool t) => bif t then a.ev s else b.ev s
  | _ => none
 | .bin op x y => OC (YR op) (x.ev s) (y.ev s)
 | .beq ne x y => OC (Dj ne) (x.ev s) (y.ev s)
 | .eqs ne ks x y => OC (eqsv ne ks) (x.ev s) (y.ev s)
 | .eqn ne x y => OC (Ct ne) (x.ev s) (y.ev s)
 | .eqi ne x => (x.ev s).bind (Cv ne)
 | .un op x => (x.ev s).bind (unv op)
 | .cvi k x => (x.ev s).bind (Cx k)
 | .cvt x => (x.ev s).bind cvtv
 | .cvb x => (x.ev s).bind (dV R)
 | .build z parts => (lay z parts s).map .agg
 | .fld off sz ag x => (x.ev s).bind (Kl off sz ag)
 | .idxs x i => OC qO (x.ev s) (i.ev s)
 | .idxa n sz ag x i => OC (wU n sz ag) (x.ev s) (i.ev s)
 | .slcs x lo hi => match bT s lo, bT s hi with
  | some l, some h => (x.ev s).bind (eT l h)
  | _, _ => none
 | .slcl sz x lo hi => match bT s lo, bT s hi with
  | some l, some h => (x.ev s).bind (TZ R sz l h)
  | _, _ => none
 | .slap n x => (x.ev s).bind (uK n)
 | .ext i x => (x.ev s).bind (Km i)
 | .len st x => (x.ev s).bind (lenv st)
 | .mkf f caps => (evs s caps).map (.clo f)
 | .mki t x => (x.ev s).bind (mkiv t)
 | .mm mx x xs => match x.ev s, evs s xs with
  | some p, some q => mmv mx p q
  | _, _ => none
 | .nck x => (x.ev s).bind Bc
 | .fda off x => (x.ev s).bind (dS R off)
 | .ixp sz x i => OC (bH R sz) (x.ev s) (i.ev s)
 | .ixq n sz x i => OC (dR R n sz) (x.ev s) (i.ev s)
 | .load sz ag x => (x.ev s).bind (U5 R sz ag)
 | _ => none
section
variable {w : World} {O : Nat → Prop} {μ : Mu} {R : Rows}
theorem D8.agg_inv {cs : List PV} {v : Value} (h : D8 w O μ R (.agg cs) v) : ∃ vs : List Value, v = .agg vs.toArray ∧ vs.length = cs.length ∧ (∀ p ∈ cs, p.one = true) ∧
  ∀ (j : Nat) (p : PV) (u : Value), cs[j]? = some p → vs[j]? = some u → D8 w O μ R p u := by
 cases h with
 | base _ _ h => cases h with | agg _ vs hl hs h => exact ⟨vs, rfl, hl, hs, fun j p u hj hu => .base _ _ (h j p u hj hu)⟩
 | agg _ vs hl hs h => exact ⟨vs, rfl, hl, hs, h⟩
theorem D8.tup_inv {cs : List PV} {v : Value} (h : D8 w O μ R (.tup cs) v) : ∃ vs : List Value, v = .tuple vs.toArray ∧ vs.length = cs.length ∧
  ∀ (j : Nat) (p : PV) (u : Value), cs[j]? = some p → vs[j]? = some u → D8 w O μ R p u := by
 cases h with
 | base _ _ h => cases h with | tup _ vs hl h => exact ⟨vs, rfl, hl, fun j p u hj hu => .base _ _ (h j p u hj hu)⟩
 | tup _ vs hl h => exact ⟨vs, rfl, hl, h⟩
theorem D8.cells [BA] {p : PV} {v : Value} (h : D8 w O μ R p v) : ∃ vs : List Value, v.cells = vs.toArray ∧ vs.length = p.cells.length ∧
  ∀ (j : Nat) (q : PV) (u : Value), p.cells[j]? = some q → vs[j]? = some u → D8 w O μ R q u := by
 by_cases hp : ∃ cs, p = .agg cs
 ·obtain ⟨cs, rfl⟩ := hp
  obtain ⟨vs, rfl, hl, _, hr⟩ := h.agg_inv
  exact ⟨vs, rfl, hl, hr⟩
 ·have h1 : p.cells = [p] := by cases p <;> first | rfl | (exact absurd ⟨_, rfl⟩ hp)
  have h2 : v.cells = #[v] := by
   cases h with
   | base _ _ h => cases h <;> first | rfl | (exact absurd ⟨_, rfl⟩ hp) | (rename_i h; exact lJ v h)
   | agg cs => exact absurd ⟨_, rfl⟩ hp
   | _ => rfl
  refine ⟨[v], by rw [h2], by rw [h1]; rfl, fun j q u hq hu => ?_⟩
  rw [h1] at hq
  cases j with
  | zero => simp at hq hu; rw [← hq, ← hu]; exact h
  | succ j => simp at hq
theorem vC {cs : List PV} {vs : List Value} (hl : vs.length = cs.length) (hs : ∀ p ∈ cs, p.one = true)
  (h : ∀ (j : Nat) (p : PV) (u : Value), cs[j]? = some p → vs[j]? = some u → D8 w O μ R p u) (off sz : Nat) :
  D8 w O μ R (.agg ((cs.drop off).take sz)) (.agg ((vs.drop off).take sz).toArray) := by
 refine .agg _ _ (by simp [hl]) (fun p hp => hs p (List.mem_of_mem_drop (List.mem_of_mem_take hp))) fun j p u hj hu => ?_
 rw [List.getElem?_take] at hj hu
 split at hj
 ·rename_i hlt
  rw [if_pos hlt] at hu
  rw [List.getElem?_drop] at hj hu
  exact h _ p u hj hu
 ·cases hj
variable {P : Program}
def FQ (P : Program) (t : TypeId) : Option Bool :=
 match P.underlying t with
 | some (.struct _) => some true
 | some (.array _ _) => some true
 | some _ => some false
 | none => none
def PW (P : Program) (t : TypeId) : Option Nat := (P.info? t).map (·.size)
theorem TM {t : TypeId} {b : Bool} (h : FQ P t = some b) (w : World) : (isAgg t).run P w = .ok b w := by
 unfold FQ at h
 cases hu : P.underlying t with
 | none => simp [hu] at h
 | some d =>
  simp only [hu] at h
  unfold isAgg
  simp only [Sem.run_bind, run_underlying hu, Result.andThen_ok]
  cases d <;> simp at h <;> subst h <;> rfl
theorem HZ {t : TypeId} {n : Nat} (h : PW P t = some n) (w : World) : (sizeOf t).run P w = .ok n w := by
 obtain ⟨i, hi, rfl⟩ := Option.map_eq_some_iff.1 h
 simp [sizeOf, typeInfo, hi]
theorem dP {t : TypeId} {i : TypeInfo} (h : P.info? t = some i) (w : World) : (typeInfo t).run P w = .ok i w := by simp [typeInfo, h]
theorem eU [BA] {t : TypeId} {ag : Bool} {sz off : Nat} (ha : FQ P t = some ag) (hz : PW P t = some sz) {cs : List PV} {vs : List Value} (hl : vs.length = cs.length)
  (hs : ∀ p ∈ cs, p.one = true) (h : ∀ (j : Nat) (p : PV) (u : Value), cs[j]? = some p → vs[j]? = some u → D8 w O μ R p u) {p : PV} (hp : U4 off sz ag cs = some p) :
  ∃ v, (part t vs.toArray off).run P w = .ok v w ∧ D8 w O μ R p v := by
 unfold part
 simp only [Sem.run_bind, TM ha, Result.andThen_ok]
 cases ag with
 | true =>
  simp only [U4, cond_true, Option.some.injEq] at hp
  subst hp
  refine ⟨.agg ((vs.drop off).take sz).toArray, ?_, vC hl hs h off sz⟩
  simp [HZ hz]
 | false =>
  simp only [U4, cond_false] at hp
  obtain ⟨hlt, _⟩ := List.getElem?_eq_some_iff.1 hp
  have hv : vs[off]? = some (vs[off]'(by omega)) := List.getElem?_eq_getElem (by omega)
  refine ⟨vs[off]'(by omega), ?_, h off p _ hp hv⟩
  simp [hv]
end
section
variable {w : World} {O : Nat → Prop} {μ : Mu} {R : Rows} {P : Program}
abbrev PO (w : World) (O : Nat → Prop) (μ : Mu) (R : Rows) : Prop := ∀ t row, R t = some row → LZ w O μ R t row
theorem Lr.cell {row : Row} {l : Loc} (h : Lr w O μ R row l) {i : Nat} {x : PV} {j : Nat} {p : PV} (hi : row.cs[i]? = some x) (hj : x.cells[j]? = some p) :
  ∃ v, w.cell? ⟨l.b, l.base + (i * row.sz + j), none⟩ = some v ∧ D6 w O μ R row.pr p v := by
 obtain ⟨arr, ety, fz, h1, _, _, _, h5⟩ := h
 obtain ⟨v, hv, hc⟩ := h5 i x j p hi hj
 exact ⟨v, by simp [World.cell?, h1, hv], hc⟩
theorem Dk [BA] (ne : Bool) (t : TypeId) (ht : P.underlying t = some .bool) {p q r : PV} (h : Dj ne p q = some r) {u v : Value} (hu : D8 w O μ R p u) (hv : D8 w O μ R q v) :
  ∃ x, (binOp (bif ne then .neq else .eql) t u v).run P w = .ok x w ∧ DZ w O r x := by
 cases p <;> cases q <;> simp only [Dj] at h <;> try cases h
 case bool.bool a b =>
  cases hu.bool_inv
  cases hv.bool_inv
  have he : ∀ d, (Op.equalIn (d + 1) t (.bool a) (.bool b)).run P w = .ok (a == b) w := fun d => run_equalIn_bool w d t a b ht
  cases ne
  ·refine ⟨.bool (a == b), ?_, .bool _⟩
   simp [binOp, Op.equal, Op.maxDepth, he 9999]
  ·refine ⟨.bool (!(a == b)), ?_, .bool _⟩
   simp [binOp, Op.equal, Op.maxDepth, he 9999]
theorem Cu (ne : Bool) (t e : TypeId) (i : TypeInfo) (ht : P.underlying t = some (.pointer e)) {p q r : PV} (h : Ct ne p q = some r) {u v : Value} (hu : D8 w O μ R p u) (hv : D8 w O μ R q v) :
  ∃ x, (binOp (bif ne then .neq else .eql) t u v).run P w = .ok x w ∧ DZ w O r x := by
 have hnil : ∀ {q : PV} {v : Value}, q = .nilp → D8 w O μ R q v → v = .pointer none := by
  intro q v hq hv
  subst hq
  cases hv with | base _ _ h => cases h; rfl
 have key : ∀ (b : Bool) (A : Option Addr), (A.isNone = b) → ∃ x, (binOp (bif ne then .neq else .eql) t (.pointer A) (.pointer none)).run P w = .ok x w ∧ DZ w O (.bool (dH ne b)) x := by
  intro b A hA
  have he : ∀ d, (Op.equalIn (d + 1) t (.pointer A) (.pointer none)).run P w = .ok b w := by
   intro d
   cases A with
   | none => simp at hA; subst hA; simp [Op.equalIn, run_underlying ht]
   | some a => simp at hA; subst hA; simp [Op.equalIn, run_underlying ht]
  cases ne
  ·refine ⟨.bool b, ?_, .bool _⟩
   simp [binOp, Op.equal, Op.maxDepth, he 9999]
  ·refine ⟨.bool (!b), ?_, .bool _⟩
   simp [binOp, Op.equal, Op.maxDepth, he 9999]
 cases p <;> cases q <;> simp only [Ct] at h <;> try cases h
 case ptr.nilp t i o =>
  cases hnil rfl hv
  cases hu with
  | base _ _ h => cases h
  | ptr _ _ _ row l hr hm hi ho => exact key false _ rfl
 case ep.nilp cs =>
  cases hnil rfl hv
  cases hu with
  | base _ _ h => cases h; exact key false _ rfl
 case nilp.nilp =>
  cases hnil rfl hv
  cases hnil rfl hu
  exact key true _ rfl
theorem Cw (ne : Bool) (t : TypeId) (ms : Array (String × TypeId)) (ht : P.underlying t = some (.interface ms)) {p r : PV} (h : Cv ne p = some r) {u : Value} (hu : D8 w O μ R p u) :
  ∃ x, (binOp (bif ne then .neq else .eql) t u .nilIface).run P w = .ok x w ∧ DZ w O r x := by
 have key : ∀ (b : Bool) (u : Value), (∀ d, (Op.equalIn (d + 1) t u .nilIface).run P w = .ok b w) → (u = .nilIface ∨ ∃ k v, u = .iface k v) → ∃ x, (binOp (bif ne then .neq else .eql) t u .nilIface).run P w = .ok x w ∧ DZ w O (.bool (dH ne b)) x := by
  intro b u he hsh
  cases ne
  ·refine ⟨.bool b, ?_, .bool _⟩
   rcases hsh with rfl | ⟨k, v, rfl⟩ <;> simp [binOp, Op.equal, Op.maxDepth, he 9999]
  ·refine ⟨.bool (!b), ?_, .bool _⟩
   rcases hsh with rfl | ⟨k, v, rfl⟩ <;> simp [binOp, Op.equal, Op.maxDepth, he 9999]
 cases p <;> simp only [Cv] at h <;> try cases h
 case nili =>
  cases hu with
  | base _ _ h => cases h; exact key true _ (fun d => by simp [Op.equalIn, run_underlying ht]) (.inl rfl)
 case ifc k p =>
  cases hu with
  | base _ _ h => cases h; exact key false _ (fun d => by simp [Op.equalIn, run_underlying ht]) (.inr ⟨_, _, rfl⟩)
 case err k b =>
  cases hu with
  | base _ _ h =>
   cases h with
   | errN =>
    have := key true .nilIface (fun d => by simp [Op.equalIn, run_underlying ht]) (.inl rfl)
    cases ne <;> exact this
   | errS k v =>
    have := key false (.iface k v) (fun d => by simp [Op.equalIn, run_underlying ht]) (.inr ⟨k, v, rfl⟩)
    cases ne <;> exact this
theorem bD {a : Addr} {cs : List PV} {n : Nat} (hn : n ≤ cs.length) (h : ∀ (j : Nat) (p : PV), cs[j]? = some p → ∃ v, w.cell? (a.add j) = some v ∧ D8 w O μ R p v) :
  ∃ vs : List Value, (loadCells a n).run P w = .ok vs.toArray w ∧ vs.length = n ∧ ∀ (j : Nat) (p : PV) (u : Value), j < n → cs[j]? = some p → vs[j]? = some u → D8 w O μ R p u := by
 have hex : ∃ f : Nat → Value, ∀ j, j < n → w.cell? (a.add j) = some (f j) ∧ ∀ p, cs[j]? = some p → D8 w O μ R p (f j) := by
  refine ⟨fun j => ((w.cell? (a.add j)).getD undef), fun j hj => ?_⟩
  have hc : cs[j]? = some (cs[j]'(by omega)) := List.getElem?_eq_getElem (by omega)
  obtain ⟨v, hv, hr⟩ := h j _ hc
  refine ⟨by simp [hv], fun p hp => ?_⟩
  rw [hc] at hp
  cases hp
  simpa [hv] using hr
 obtain ⟨f, hf⟩ := hex
 refine ⟨(List.range n).map f, run_loadCells w a n f (fun j hj => (hf j hj).1), by simp, fun j p u hj hp hu => ?_⟩
 simp [List.getElem?_map, List.getElem?_range, hj] at hu
 subst hu
 exact (hf j hj).2 p hp
theorem kH [BA] {t : TypeId} {sz : Nat} {ag : Bool} (ha : FQ P t = some ag) (hz : PW P t = some sz) (hR : PO w O μ R) {x p : PV} {u : Value} (hx : D8 w O μ R x u) (h : U5 R sz ag x = some p) :
  ∃ v, (Instr.loadAt t u).run P w = .ok v w ∧ D8 w O μ R p v := by
 have key : ∀ (b o : Nat) (cs : List PV) (off : Nat), (∀ p ∈ cs, p.one = true) → (∀ (j : Nat) (p : PV), cs[j]? = some p → ∃ v, w.cell? ⟨b, o + j, none⟩ = some v ∧ D8 w O μ R p v) →
   (ag = true → off + sz ≤ cs.length) → U4 off sz ag cs = some p → ∃ v, (Instr.loadAt t (.pointer (some ⟨b, o + off, none⟩))).run P w = .ok v w ∧ D8 w O μ R p v := by
  intro b o cs off hs hc hn hp
  unfold Instr.loadAt Instr.sureAddr loadVar
  simp only [Sem.run_bind, Sem.run_pure, Result.andThen_ok, TM ha]
  cases ag with
  | false =>
   simp only [U4, cond_false] at hp
   obtain ⟨v, hv, hr⟩ := hc off p hp
   exact ⟨v, by simp [hv], hr⟩
  | true =>
   simp only [U4, cond_true, Option.some.injEq] at hp
   subst hp
   have hle := hn rfl
   obtain ⟨vs, hrun, hlen, hrel⟩ := bD (P := P) (a := ⟨b, o + off, none⟩) (cs := (cs.drop off).take sz) (n := sz) (by simp; omega) (fun j p hj => by
    rw [List.getElem?_take] at hj
    split at hj
    ·rw [List.getElem?_drop] at hj
     obtain ⟨v, hv, hr⟩ := hc (off + j) p hj
     exact ⟨v, by rw [Addr.add_lit, Nat.add_assoc]; exact hv, hr⟩
    ·cases hj)
   refine ⟨.agg vs.toArray, by simp [HZ hz, hrun], .agg _ _ (by simp; omega) (fun p hp => hs p (List.mem_of_mem_drop (List.mem_of_mem_take hp))) fun j p u hj hu => ?_⟩
   have hjl : j < sz := by
    obtain ⟨hlt, _⟩ := List.getElem?_eq_some_iff.1 hu
    omega
   exact hrel j p u hjl hj hu
 cases x <;> simp only [U5] at h <;> try cases h
 case ptr t' i o =>
  cases hr : R t' with
  | none => simp [hr] at h
  | some row =>
   cases hi : row.cs[i]? with
   | none => simp [hr, hi] at h
   | some y =>
    simp only [hr, hi] at h
    split at h
    ·cases h
    ·rename_i hn
     cases hx with
     | base _ _ h' => cases h'
     | ptr _ _ _ row' l hr' hm hil ho =>
      rw [hr] at hr'
      cases hr'
      have hrr := hR t' row hr
      have hlie := hrr.lie l hm
      rw [← Nat.add_assoc]
      refine key l.b (l.base + i * row.sz) y.cells o ((hrr.el y (List.mem_of_getElem? hi)).2) (fun j p hj => ?_) (fun hag => ?_) h
      ·obtain ⟨v, hv, hc⟩ := hlie.cell hi hj
       exact ⟨v, by rw [Nat.add_assoc]; exact hv, hc.rel⟩
      ·rcases Nat.lt_or_ge y.cells.length (o + sz) with h1 | h1
       ·exact absurd ⟨hag, h1⟩ hn
       ·exact h1
 case ep cs =>
  split at h
  ·cases h
  ·rename_i hn
   cases hx with
   | base _ _ h' =>
    cases h' with
    | ep _ b o V ho hx hs h1 h2 =>
     refine key b o cs 0 hs (fun j p hj => ⟨V j, h1 j p hj, .base _ _ (h2 j p hj)⟩) (fun hag => ?_) h
     rcases Nat.lt_or_ge cs.length sz with h1 | h1
     ·exact absurd ⟨hag, h1⟩ hn
     ·omega
theorem xW {sz : Nat} {xs : List PV} {b o c : Nat} {V : Nat → Nat → Value} (ho : ¬ O b) (hz : 0 < sz)
  (hs : ∀ x ∈ xs, x.cells.length = sz ∧ ∀ p ∈ x.cells, p.one = true)
  (h1 : ∀ (i : Nat) (x : PV) (j : Nat) (p : PV), xs[i]? = some x → x.cells[j]? = some p → w.cell? ⟨b, o + (i * sz + j), none⟩ = some (V i j))
  (h2 : ∀ (i : Nat) (x : PV) (j : Nat) (p : PV), xs[i]? = some x → x.cells[j]? = some p → DZ w O p (V i j)) {i : Nat} {x : PV} (hi : xs[i]? = some x) :
  DZ w O (.ep x.cells) (.pointer (some ⟨b, o + i * sz, none⟩)) := by
 have hx := hs x (List.mem_of_getElem? hi)
 refine .ep x.cells b (o + i * sz) (V i) ho (fun e => by rw [e] at hx; simp at hx; omega) hx.2 (fun j p hj => ?_) (fun j p hj => h2 i x j p hi hj)
 rw [Nat.add_assoc]
 exact h1 i x j p hi hj
theorem Ce [BA] {t e : TypeId} {sz : Nat} (ht : P.underlying t = some (.slice e)) (hz : PW P e = some sz) {x y p : PV} {u v : Value} (hx : D8 w O μ R x u) (hy : D8 w O μ R y v) (hR : PO w O μ R) (h : bH R sz x y = some p) :
  ∃ q, (Instr.indexAt t u v).run P w = .ok q w ∧ D8 w O μ R p q := by
 cases x <;> cases y <;> simp only [bH] at h <;> try cases h
 case sl.int sz' xs k i =>
  cases hy.int_inv
  split at h
  ·rename_i hc
   obtain ⟨rfl, h0⟩ := hc
   obtain ⟨x, hi, rfl⟩ := Option.map_eq_some_iff.1 h
   obtain ⟨hlt, _⟩ := List.getElem?_eq_some_iff.1 hi
   cases hx with
   | base _ _ hx =>
    cases hx with
    | sl0 => simp at hi
    | sl _ _ b o c V ho hx hc' hz' hs h1 h2 =>
     refine ⟨_, ?_, .base _ _ (xW (c := c) ho hz' hs h1 h2 hi)⟩
     have hlt' : i < (xs.length : Int) := by omega
     simp [Instr.indexAt, asIntOf, run_underlying ht, h0, hlt', HZ hz, Addr.add_lit]
  ·cases h
 case slr.int t' lo n k i =>
  cases hy.int_inv
  cases hr : R t' with
  | none => simp [hr] at h
  | some row =>
   simp only [hr] at h
   split at h
   ·rename_i hc
    obtain ⟨hsz, h0, h1⟩ := hc
    cases h
    cases hx with
    | base _ _ h' => cases h'
    | slr _ _ _ c row' l hr' hm hn hc' hroom =>
     rw [hr] at hr'
     cases hr'
     refine ⟨_, ?_, .ptr t' (lo + i.toNat) 0 row l hr hm (by omega) (hR t' row hr).sz⟩
     simp [Instr.indexAt, asIntOf, run_underlying ht, h0, h1, HZ hz, Addr.add_lit]
     rw [hsz, Nat.add_mul, Nat.add_assoc]
    | slr0 => omega
   ·cases h
theorem Cc [BA] {t e : TypeId} {n sz : Nat} (ht : P.underlying t = some (.array n e)) (hz : PW P e = some sz) {x y p : PV} {u v : Value} (hx : D8 w O μ R x u) (hy : D8 w O μ R y v) (h : dR R n sz x y = some p) :
  ∃ q, (Instr.indexAt t u v).run P w = .ok q w ∧ D8 w O μ R p q := by
 cases x <;> cases y <;> simp only [dR] at h <;> try cases h
 case ptr.int t' i o k j =>
  cases hy.int_inv
  cases hr : R t' with
  | none => simp [hr] at h
  | some row =>
   simp only [hr] at h
   split at h
   ·rename_i hc
    obtain ⟨h0, h1, h2⟩ := hc
    cases h
    cases hx with
    | base _ _ h' => cases h'
    | ptr _ _ _ row' l hr' hm hi ho =>
     rw [hr] at hr'
     cases hr'
     refine ⟨_, ?_, .ptr t' i (o + j.toNat * sz) row l hr hm hi h2⟩
     simp [Instr.indexAt, Instr.sureAddr, asIntOf, run_underlying ht, h0, h1, HZ hz, Addr.add_lit]
     omega
   ·cases h
 case ep.int cs k j =>
  cases hy.int_inv
  split at h
  ·rename_i hc
   obtain ⟨h0, h1, h2⟩ := hc
   cases h
   cases hx with
   | base _ _ h' =>
    cases h' with
    | ep _ b o V ho hx hs g1 g2 =>
     refine ⟨_, ?_, .base _ _ (.ep _ b (o + j.toNat * sz) (fun m => V (j.toNat * sz + m)) ho (fun e => ?_) (fun p hp => hs p (List.mem_of_mem_drop hp)) (fun m p hm => ?_) (fun m p hm => ?_))⟩
     ·simp [Instr.indexAt, Instr.sureAddr, asIntOf, run_underlying ht, h0, h1, HZ hz, Addr.add_lit]
     ·have := congrArg List.length e
      simp at this
      omega
     ·rw [List.getElem?_drop] at hm
      rw [Nat.add_assoc]
      exact g1 _ p hm
     ·rw [List.getElem?_drop] at hm
      exact g2 _ p hm
  ·cases h
theorem Co [BA] {t : TypeId} {fs : Array Field} {f : Field} {k off sz : Nat} (ht : P.underlying t = some (.struct fs)) (hf : fs[k]? = some f) (hz : PW P f.type = some sz) (hsz : sz ≠ 0) (ho : f.offset = off)
  {x p : PV} {u : Value} (hx : D8 w O μ R x u) (h : dS R off x = some p) : ∃ q, (Instr.fieldAt t u k).run P w = .ok q w ∧ D8 w O μ R p q := by
 subst ho
 cases x <;> simp only [dS] at h <;> try cases h
 case ptr t' i o =>
  cases hr : R t' with
  | none => simp [hr] at h
  | some row =>
   simp only [hr] at h
   split at h
   ·rename_i hc
    cases h
    cases hx with
    | base _ _ h' => cases h'
    | ptr _ _ _ row' l hr' hm hi ho =>
     rw [hr] at hr'
     cases hr'
     refine ⟨_, ?_, .ptr t' i (o + f.offset) row l hr hm hi hc⟩
     simp [Instr.fieldAt, Instr.sureAddr, run_underlying ht, hf, fieldPlace, HZ hz, hsz, Addr.add_lit]
     omega
   ·cases h
 case ep cs =>
  split at h
  ·rename_i hc
   cases h
   cases hx with
   | base _ _ h' =>
    cases h' with
    | ep _ b o V ho hx hs g1 g2 =>
     refine ⟨_, ?_, .base _ _ (.ep _ b (o + f.offset) (fun m => V (f.offset + m)) ho (fun e => ?_) (fun p hp => hs p (List.mem_of_mem_drop hp)) (fun m p hm => ?_) (fun m p hm => ?_))⟩
     ·simp [Instr.fieldAt, Instr.sureAddr, run_underlying ht, hf, fieldPlace, HZ hz, hsz, Addr.add_lit]
     ·have := congrArg List.length e
      simp at this
      omega
     ·rw [List.getElem?_drop] at hm
      rw [Nat.add_assoc]
      exact g1 _ p hm
     ·rw [List.getElem?_drop] at hm
      exact g2 _ p hm
  ·cases h
end
section
variable {w : World} {O : Nat → Prop} {μ : Mu} {R : Rows} {P : Program}
theorem vP [BA] {t ty : TypeId} (ht : P.underlying t = some .string) {x p : PV} {u : Value} (hx : D8 w O μ R x u) (h : vO x = some p) :
  ∃ q, (Builtin.len_ #[t] ty #[u]).run P w = .ok q w ∧ D8 w O μ R p q := by
 cases x <;> simp only [vO] at h <;> try cases h
 case str s =>
  cases hx.str_inv
  refine ⟨_, ?_, .base _ _ (.int _ _)⟩
  have hs : (⟨s.toArray⟩ : ByteArray).size = s.length := List.size_toArray
  simp [Builtin.len_, run_underlying ht, goInt, hs]
theorem vQ {t ty e : TypeId} (ht : P.underlying t = some (.slice e)) {x p : PV} {u : Value} (hx : D8 w O μ R x u) (h : pO x = some p) :
  ∃ q, (Builtin.len_ #[t] ty #[u]).run P w = .ok q w ∧ D8 w O μ R p q := by
 have key : ∀ (A : Option Addr) (n c : Nat), ∃ q, (Builtin.len_ #[t] ty #[.slice A n c]).run P w = .ok q w ∧ D8 w O μ R (.int .i64 (n : Int)) q := fun A n c =>
  ⟨.int .i64 n, by simp [Builtin.len_, run_underlying ht, goInt], .base _ _ (.int _ _)⟩
 cases x <;> simp only [pO] at h <;> try cases h
 case sl sz xs =>
  cases hx with | base _ _ hx => cases hx <;> exact key _ _ _
 case slr t' lo n =>
  cases hx with
  | base _ _ hx => cases hx
  | slr => exact key _ _ _
  | slr0 => exact key _ _ _
 case nl =>
  cases hx with | base _ _ hx => cases hx; exact key _ 0 _
theorem Cq [BA] {i : Nat} {x p : PV} {u : Value} (hx : D8 w O μ R x u) (h : Km i x = some p) : ∃ q, (Instr.extract u i).run P w = .ok q w ∧ D8 w O μ R p q := by
 cases x <;> simp only [Km] at h <;> try cases h
 case tup vs =>
  obtain ⟨us, rfl, hl, hr⟩ := hx.tup_inv
  obtain ⟨hlt, _⟩ := List.getElem?_eq_some_iff.1 h
  have hu : us[i]? = some (us[i]'(by omega)) := List.getElem?_eq_getElem (by omega)
  exact ⟨us[i]'(by omega), by simp [Instr.extract, hu], hr i p _ h hu⟩
theorem Cn [BA] {t : TypeId} {fs : Array Field} {f : Field} {k off sz : Nat} {ag : Bool} (ht : P.underlying t = some (.struct fs)) (hf : fs[k]? = some f) (ha : FQ P f.type = some ag) (hz : PW P f.type = some sz) (ho : f.offset = off)
  {x p : PV} {u : Value} (hx : D8 w O μ R x u) (h : Kl off sz ag x = some p) : ∃ q, (Instr.field t u k).run P w = .ok q w ∧ D8 w O μ R p q := by
 subst ho
 cases x <;> simp only [Kl] at h <;> try cases h
 case agg cs =>
  obtain ⟨vs, rfl, hl, hs, hr⟩ := hx.agg_inv
  obtain ⟨v, hv, hrel⟩ := eU (P := P) ha hz hl hs hr h
  exact ⟨v, by simp [Instr.field, run_underlying ht, hf, asAgg, hv], hrel⟩
theorem wT [BA] {t : TypeId} (ht : P.underlying t = some .string) {x y p : PV} {u v : Value} (hx : D8 w O μ R x u) (hy : D8 w O μ R y v) (h : qO x y = some p) :
  ∃ q, (Instr.index t u v).run P w = .ok q w ∧ D8 w O μ R p q := by
 cases x <;> cases y <;> simp only [qO] at h <;> try cases h
 case str.int s k i =>
  cases hx.str_inv
  cases hy.int_inv
  split at h
  ·rename_i h0
   obtain ⟨b, hb, rfl⟩ := Option.map_eq_some_iff.1 h
   obtain ⟨hlt, hb'⟩ := List.getElem?_eq_some_iff.1 hb
   refine ⟨.int .u8 (b.toNat : Int), ?_, .base _ _ (.int _ _)⟩
   have hg : (⟨s.toArray⟩ : ByteArray)[i.toNat]? = some b := by
    rw [ByteArray.getElem?_lt' _ _ (by simpa [ByteArray.size] using hlt)]
    exact congrArg some (by rw [← hb']; rfl)
   simp [Instr.index, asIntOf, run_underlying ht, h0, hg]
  ·cases h
theorem wV [BA] {t e : TypeId} {n sz : Nat} {ag : Bool} (ht : P.underlying t = some (.array n e)) (ha : FQ P e = some ag) (hz : PW P e = some sz) {x y p : PV} {u v : Value} (hx : D8 w O μ R x u) (hy : D8 w O μ R y v)
  (h : wU n sz ag x y = some p) : ∃ q, (Instr.index t u v).run P w = .ok q w ∧ D8 w O μ R p q := by
 cases x <;> cases y <;> simp only [wU] at h <;> try cases h
 case agg.int cs k i =>
  obtain ⟨vs, rfl, hl, hs, hr⟩ := hx.agg_inv
  cases hy.int_inv
  split at h
  ·rename_i h0
   obtain ⟨v, hv, hrel⟩ := eU (P := P) ha hz hl hs hr h
   refine ⟨v, ?_, hrel⟩
   simp [Instr.index, asIntOf, run_underlying ht, h0, HZ hz, hv]
  ·cases h
theorem NU [BA] {isSlice : Bool} {n c : Nat} (hc : n ≤ c) {lo hi : Option PV} {l h : Nat} (hb : bounds n lo hi = some (l, h)) {ul uh : Option Value}
  (hl : ∀ p, lo = some p → ∃ u, ul = some u ∧ D8 w O μ R p u) (hl' : lo = none → ul = none) (hh : ∀ p, hi = some p → ∃ u, uh = some u ∧ D8 w O μ R p u) (hh' : hi = none → uh = none) :
  (Instr.sliceBounds isSlice n c ul uh none).run P w = .ok (l, h, c) w ∧ l ≤ h ∧ h ≤ n := by
 have sb : ∀ (k : IntKind) (i : Int) (y : Nat) (code : BoundsCode), 0 ≤ i → i ≤ y → (Instr.sliceBound (.int k i) y code).run P w = .ok i.toNat w := by
  intro k i y code h0 h1
  simp [Instr.sliceBound, asIntOf, h0, h1]
 unfold Instr.sliceBounds
 cases lo with
 | none =>
  cases hl' rfl
  cases hi with
  | none => cases hh' rfl; simp only [bounds, Option.some.injEq, Prod.mk.injEq] at hb; obtain ⟨rfl, rfl⟩ := hb; exact ⟨by simp, by omega, by omega⟩
  | some p =>
   obtain ⟨u, rfl, hr⟩ := hh p rfl
   cases p <;> simp only [bounds] at hb <;> try cases hb
   case int k i =>
    cases hr.int_inv
    split at hb
    ·rename_i hc'
     simp only [Option.some.injEq, Prod.mk.injEq] at hb
     obtain ⟨rfl, rfl⟩ := hb
     exact ⟨by simp [sb k i c _ hc'.1 (by omega)], by omega, by omega⟩
    ·cases hb
 | some q =>
  obtain ⟨u, rfl, hr⟩ := hl q rfl
  cases hi with
  | none =>
   cases hh' rfl
   cases q <;> simp only [bounds] at hb <;> try cases hb
   case int k i =>
    cases hr.int_inv
    split at hb
    ·rename_i hc'
     simp only [Option.some.injEq, Prod.mk.injEq] at hb
     obtain ⟨rfl, rfl⟩ := hb
     exact ⟨by simp [sb k i n _ hc'.1 (by omega)], by omega, by omega⟩
    ·cases hb
  | some p =>
   obtain ⟨u', rfl, hr'⟩ := hh p rfl
   cases q <;> cases p <;> simp only [bounds] at hb <;> try cases hb
   case int.int k i k' j =>
    cases hr.int_inv
    cases hr'.int_inv
    split at hb
    ·rename_i hc'
     simp only [Option.some.injEq, Prod.mk.injEq] at hb
     obtain ⟨rfl, rfl⟩ := hb
     refine ⟨?_, by omega, by omega⟩
     simp [sb k' j c _ (by omega) (by omega), sb k i j.toNat _ hc'.1 (by omega)]
    ·cases hb
theorem uI [BA] {t : TypeId} (ht : P.underlying t = some .string) {lo hi : Option PV} {x p : PV} {u : Value} (hx : D8 w O μ R x u) (h : eT lo hi x = some p) {ul uh : Option Value}
  (hl : ∀ p, lo = some p → ∃ u, ul = some u ∧ D8 w O μ R p u) (hl' : lo = none → ul = none) (hh : ∀ p, hi = some p → ∃ u, uh = some u ∧ D8 w O μ R p u) (hh' : hi = none → uh = none) :
  ∃ q, (Instr.sliceAt t u ul uh none).run P w = .ok q w ∧ D8 w O μ R p q := by
 cases x <;> simp only [eT] at h <;> try cases h
 case str s =>
  cases hx.str_inv
  obtain ⟨⟨l, m⟩, hb, rfl⟩ := Option.map_eq_some_iff.1 h
  obtain ⟨hrun, h1, h2⟩ := NU (P := P) (isSlice := false) (Nat.le_refl s.length) hb hl hl' hh hh'
  have hs : (⟨s.toArray⟩ : ByteArray).size = s.length := by simp [ByteArray.size]
  refine ⟨.string ((⟨s.toArray⟩ : ByteArray).extract l m), ?_, ?_⟩
  ·rw [run_sliceAt_string _ _ _ _ _ _ ht]
   simp [Instr.slice, run_underlying ht, hs, hrun]
  ·have he : (⟨s.toArray⟩ : ByteArray).extract l m = ⟨((s.take m).drop l).toArray⟩ := by
    apply ByteArray.ext
    rw [ByteArray.data_extract]
    simp [List.drop_take]
   rw [he]
   exact .base _ _ (.str _)
theorem uJ [BA] {t e : TypeId} {sz : Nat} (ht : P.underlying t = some (.slice e)) (hz : PW P e = some sz) (hR : PO w O μ R) {lo hi : Option PV} {x p : PV} {u : Value} (hx : D8 w O μ R x u) (h : TZ R sz lo hi x = some p) {ul uh : Option Value}
  (hl : ∀ p, lo = some p → ∃ u, ul = some u ∧ D8 w O μ R p u) (hl' : lo = none → ul = none) (hh : ∀ p, hi = some p → ∃ u, uh = some u ∧ D8 w O μ R p u) (hh' : hi = none → uh = none) :
  ∃ q, (Instr.sliceAt t u ul uh none).run P w = .ok q w ∧ D8 w O μ R p q := by
 have key : ∀ (A : Option Addr) (n c l m : Nat), (Instr.sliceBounds true n c ul uh none).run P w = .ok (l, m, c) w →
   (Instr.sliceAt t (.slice A n c) ul uh none).run P w = .ok (.slice (if c = l then A else A.map (·.add (l * sz))) (m - l) (c - l)) w := by
  intro A n c l m hrun
  have : (Instr.sliceAt t (.slice A n c) ul uh none).run P w = (Instr.slice t (.slice A n c) ul uh none).run P w := by simp [Instr.sliceAt, run_underlying ht]
  rw [this]
  simp [Instr.slice, run_underlying ht, hrun, HZ hz]
 cases x <;> simp only [TZ] at h <;> try cases h
 case nl =>
  obtain ⟨⟨l, m⟩, hb, rfl⟩ := Option.map_eq_some_iff.1 h
  cases hx with
  | base _ _ hx =>
   cases hx with
   | nl =>
    obtain ⟨hrun, h1, h2⟩ := NU (P := P) (isSlice := true) (Nat.le_refl 0) hb hl hl' hh hh'
    refine ⟨_, key none 0 0 l m hrun, ?_⟩
    have : m - l = 0 := by omega
    rw [this, Nat.zero_sub, show (if 0 = l then (none : Option Addr) else (none : Option Addr).map (·.add (l * sz))) = none by split <;> rfl]
    exact .base _ _ .nl
 case sl sz' xs =>
  split at h
  ·rename_i hsz
   subst hsz
   obtain ⟨⟨l, m⟩, hb, rfl⟩ := Option.map_eq_some_iff.1 h
   cases hx with
   | base _ _ hx =>
    cases hx with
    | sl0 _ A c =>
     obtain ⟨hrun, h1, h2⟩ := NU (P := P) (isSlice := true) (n := 0) (c := c) (Nat.zero_le _) (by simpa using hb) hl hl' hh hh'
     refine ⟨_, key A 0 c l m hrun, ?_⟩
     have : m - l = 0 := by omega
     rw [this]
     have hnil : (([] : List PV).take m).drop l = [] := by simp
     rw [hnil]
     exact .base _ _ (.sl0 _ _ _)
    | sl _ _ b o c V ho hx hc hz' hs h1 h2 =>
     obtain ⟨hrun, g1, g2⟩ := NU (P := P) (isSlice := true) hc hb hl hl' hh hh'
     refine ⟨_, key _ _ c l m hrun, ?_⟩
     by_cases hlm : l = m
     ·subst hlm
      have hnil : (xs.take l).drop l = [] := by simp
      rw [hnil, Nat.sub_self]
      exact .base _ _ (.sl0 _ _ _)
     ·have hne : c ≠ l := by omega
      rw [if_neg hne]
      have hlen : ((xs.take m).drop l).length = m - l := by simp; omega
      rw [← hlen]
      simp only [Option.map_some, Addr.add_lit]
      refine .base _ _ (.sl _ _ b (o + l * sz') (c - l) (fun i j => V (l + i) j) ho (fun e => by rw [e] at hlen; simp at hlen; omega) (by omega) hz' (fun x hx => hs x (List.mem_of_mem_take (List.mem_of_mem_drop hx))) (fun i x j p hi hj => ?_) (fun i x j p hi hj => ?_))
      ·rw [List.getElem?_drop, List.getElem?_take] at hi
       split at hi
       ·have := h1 (l + i) x j p hi hj
        rw [Nat.add_mul] at this
        rw [show o + l * sz' + (i * sz' + j) = o + (l * sz' + i * sz' + j) by omega]
        exact this
       ·cases hi
      ·rw [List.getElem?_drop, List.getElem?_take] at hi
       split at hi
       ·exact h2 (l + i) x j p hi hj
       ·cases hi
  ·cases h
 case slr t' o n =>
  cases hr : R t' with
  | none => simp [hr] at h
  | some row =>
   simp only [hr] at h
   split at h
   ·rename_i hsz
    obtain ⟨⟨l, m⟩, hb, rfl⟩ := Option.map_eq_some_iff.1 h
    cases hx with
    | base _ _ h' => cases h'
    | slr _ _ _ c row' loc hr' hm hn hc hroom =>
     rw [hr] at hr'
     cases hr'
     obtain ⟨hrun, g1, g2⟩ := NU (P := P) (isSlice := true) hc hb hl hl' hh hh'
     refine ⟨_, key _ _ c l m hrun, ?_⟩
     by_cases hcl : c = l
     ·rw [if_pos hcl]
      have e1 : m - l = 0 := by omega
      have e2 : c - l = 0 := by omega
      rw [e1, e2]
      exact .slr0 t' (o + l) row _ hr (by omega)
     ·rw [if_neg hcl]
      simp only [Option.map_some, Addr.add_lit]
      rw [show loc.base + o * row.sz + l * sz = loc.base + (o + l) * row.sz by rw [hsz, Nat.add_mul]; omega]
      refine .slr t' (o + l) (m - l) (c - l) row loc hr hm (by omega) (by omega) ?_
      rw [show o + l + (c - l) = o + c by omega]
      exact hroom
    | slr0 _ _ row' A hr' hn =>
     rw [hr] at hr'
     cases hr'
     obtain ⟨hrun, g1, g2⟩ := NU (P := P) (isSlice := true) (Nat.le_refl 0) hb hl hl' hh hh'
     refine ⟨_, key A 0 0 l m hrun, ?_⟩
     have e1 : m - l = 0 := by omega
     have e2 : 0 - l = 0 := by omega
     rw [e1, e2]
     exact .slr0 t' (o + l) row _ hr (by omega)
   ·cases h
theorem uL [BA] {t e : TypeId} {n : Nat} (ht : P.underlying t = some (.array n e)) (hz : PW P e = some 1) {x p : PV} {u : Value} (hx : D8 w O μ R x u) (h : uK n x = some p) :
  ∃ q, (Instr.sliceAt t u none none none).run P w = .ok q w ∧ D8 w O μ R p q := by
 cases x <;> simp only [uK] at h <;> try cases h
 case ep cs =>
  split at h
  case isFalse => cases h
  rename_i hn
  cases h
  cases hx with
  | base _ _ hx =>
   cases hx with
   | ep _ b o V ho hne hs h1 h2 =>
    have hn0 : 0 < n := by rw [← hn]; exact List.length_pos_iff.2 hne
    refine ⟨.slice (some ⟨b, o, none⟩) n n, ?_, ?_⟩
    ·have hadd : (⟨b, o, none⟩ : Addr).add 0 = ⟨b, o, none⟩ := rfl
     simp [Instr.sliceAt, Instr.sureAddr, Instr.sliceBounds, run_underlying ht, HZ hz, hadd]
    ·have hcell : ∀ p ∈ cs, p.cells = [p] := by
      intro p hp
      have := hs p hp
      cases p <;> simp_all [PV.cells, PV.one]
     have := DZ.sl (w := w) (O := O) 1 cs b o n (fun i j => V (i + j)) ho hne (by omega) (by decide)
      (fun q hq => by rw [hcell q hq]; exact ⟨rfl, fun p hp => by simp at hp; subst hp; exact hs _ hq⟩)
      (fun i q j p hi hj => by
       rw [hcell q (List.mem_of_getElem? hi)] at hj
       cases j with
       | zero => simp only [Nat.mul_one, Nat.add_zero]; exact h1 i q hi
       | succ j => simp at hj)
      (fun i q j p hi hj => by
       rw [hcell q (List.mem_of_getElem? hi)] at hj
       cases j with
       | zero => simp at hj; subst hj; exact h2 i q hi
       | succ j => simp at hj)
     rw [hn] at this
     exact .base _ _ this
theorem rO {y p : PV} {u : Value} (hx : D8 w O μ R y u) (h : Bc y = some p) : y = p ∧ ((∃ a, u = .pointer (some a)) ∨ ∃ f c, u = .func (.func f) #[] c) := by
 cases y <;> simp only [Bc] at h <;> try cases h
 case ptr t i off =>
  cases hx with
  | base _ _ h' => cases h'
  | ptr => exact ⟨rfl, .inl ⟨_, rfl⟩⟩
 case ep cs => cases hx with | base _ _ h' => cases h'; exact ⟨rfl, .inl ⟨_, rfl⟩⟩
 case clo f caps =>
  cases hx with
  | base _ _ h' => cases h'; exact ⟨rfl, .inr ⟨_, _, rfl⟩⟩
  | clo => exact ⟨rfl, .inr ⟨_, _, rfl⟩⟩
theorem Bd [BA] {o : Oper} {a : Act} {x : Operand} (ho : o.op = .nilCheck x) {y p : PV} (hx : D8 w O μ R y (a.eval x)) (h : Bc y = some p) :
  ∃ q, (execOp a.eval o).run P w = .ok (.value q) w ∧ D8 w O μ R p q := by
 obtain ⟨rfl, hu⟩ := rO hx h
 refine ⟨a.eval x, ?_, hx⟩
 rcases hu with ⟨b, hb⟩ | ⟨f, c, hb⟩ <;> (simp only [execOp, ho, hb]; rfl)
theorem jM {xs : List PV} (h : xs.all PV.isU8 = true) : ∃ ns : List Int, xs = ns.map (PV.int .u8) ∧ xs.map PV.byte = ns.map fun n => UInt8.ofNat n.toNat := by
 induction xs with
 | nil => exact ⟨[], rfl, rfl⟩
 | cons x r ih =>
  simp only [List.all_cons, Bool.and_eq_true] at h
  obtain ⟨ns, h1, h2⟩ := ih h.2
  have hx : ∃ n, x = .int .u8 n := by
   cases x <;> simp [PV.isU8] at h
   rename_i k n
   cases k <;> simp [PV.isU8] at h
   exact ⟨n, rfl⟩
  obtain ⟨n, rfl⟩ := hx
  exact ⟨n :: ns, by rw [h1]; rfl, by simp only [List.map_cons, h2]; rfl⟩
theorem nP (l : List Int) : ∀ (s : List UInt8), l.foldl (fun r n => r.push (UInt8.ofNat n.toNat)) (⟨s.toArray⟩ : ByteArray) = ⟨(s ++ l.map fun n => UInt8.ofNat n.toNat).toArray⟩ := by
 induction l with
 | nil => intro s; simp
 | cons n l ih =>
  intro s
  simp only [List.foldl_cons, List.map_cons]
  have : (⟨s.toArray⟩ : ByteArray).push (UInt8.ofNat n.toNat) = ⟨(s ++ [UInt8.ofNat n.toNat]).toArray⟩ := by
   apply ByteArray.ext
   simp [ByteArray.push]
  rw [this, ih]
  simp
theorem Cy [BA] {src dst e : TypeId} (hs : P.underlying src = some (.slice e)) (hd : P.underlying dst = some .string) (he : P.underlying e = some (.int .u8)) (hR : PO w O μ R)
  {x p : PV} {u : Value} (hx : D8 w O μ R x u) (h : dV R x = some p) : ∃ q, (convert src dst u).run P w = .ok q w ∧ D8 w O μ R p q := by
 have conv : ∀ (A : Option Addr) (n c : Nat), (convert src dst (.slice A n c)).run P w = (Conv.bytesToString (.slice A n c)).run P w := fun A n c => run_convert_bytes_string w src dst e A n c hs he hd
 have key : ∀ (ns : List Int) (b o c : Nat), (∀ j n, ns[j]? = some n → w.cell? ⟨b, o + j, none⟩ = some (.int .u8 n)) →
   ∃ q, (convert src dst (.slice (some ⟨b, o, none⟩) ns.length c)).run P w = .ok q w ∧ D8 w O μ R (.str (ns.map fun n => UInt8.ofNat n.toNat)) q := by
  intro ns b o c hc
  rw [conv]
  have hload := run_loadCells_list (P := P) w ⟨b, o, none⟩ (ns.map (Value.int .u8)) (fun j v hj => by
   rw [List.getElem?_map] at hj
   obtain ⟨n, hn, rfl⟩ := Option.map_eq_some_iff.1 hj
   rw [Addr.add_lit]
   exact hc j n hn)
  rw [List.length_map] at hload
  refine ⟨_, run_bytesToString w _ _ c ns hload, ?_⟩
  have := nP ns []
  rw [show (⟨([] : List UInt8).toArray⟩ : ByteArray) = ByteArray.empty from rfl] at this
  rw [this, List.nil_append]
  exact .base _ _ (.str _)
 cases x <;> simp only [dV] at h <;> try cases h
 case nl =>
  cases hx with
  | base _ _ h' =>
   cases h' with
   | nl => exact ⟨.string ByteArray.empty, by rw [conv]; simp [Conv.bytesToString], .base _ _ (.str [])⟩
 case sl sz xs =>
  split at h
  ·rename_i hc
   obtain ⟨rfl, hall⟩ := hc
   cases h
   obtain ⟨ns, h1, h2⟩ := jM hall
   rw [h2]
   cases hx with
   | base _ _ h' =>
    cases h' with
    | sl0 _ A c =>
     have hns : ns = [] := by cases ns with | nil => rfl | cons => cases h1
     subst hns
     cases A with
     | none => exact ⟨.string ByteArray.empty, by rw [conv]; simp [Conv.bytesToString], .base _ _ (.str [])⟩
     | some a =>
      refine ⟨.string ByteArray.empty, ?_, .base _ _ (.str [])⟩
      rw [conv]
      have := run_bytesToString (P := P) w a 0 c [] (by simpa using run_loadCells_list (P := P) w a [] (fun j v hj => by simp at hj))
      simpa using this
    | sl _ _ b o c V ho hx' hc' hz' hs' g1 g2 =>
     have hlen : xs.length = ns.length := by rw [h1, List.length_map]
     rw [hlen]
     refine key ns b o c fun j n hj => ?_
     have hj' : xs[j]? = some (.int .u8 n) := by rw [h1, List.getElem?_map, hj]; rfl
     have e1 := g1 j _ 0 (.int .u8 n) hj' rfl
     have e2 := g2 j _ 0 (.int .u8 n) hj' rfl
     rw [Nat.mul_one, Nat.add_zero] at e1
     rw [e1, (D8.base (μ := μ) (R := R) _ _ e2).int_inv]
  ·cases h
 case slr t lo n =>
  cases hr : R t with
  | none => simp [hr] at h
  | some row =>
   simp only [hr] at h
   split at h
   ·rename_i hc
    obtain ⟨hpr, hsz, hall⟩ := hc
    cases h
    obtain ⟨ns, h1, h2⟩ := jM hall
    rw [h2]
    cases hx with
    | base _ _ h' => cases h'
    | slr _ _ _ c row' l hr' hm hn hc' hroom =>
     rw [hr] at hr'
     cases hr'
     have hlen : ns.length = n := by
      have := congrArg List.length h1
      simp at this
      omega
     rw [← hlen]
     refine key ns _ _ c fun j m hj => ?_
     have hj' : ((row.cs.drop lo).take n)[j]? = some (.int .u8 m) := by rw [h1, List.getElem?_map, hj]; rfl
     rw [List.getElem?_take] at hj'
     split at hj'
     ·rw [List.getElem?_drop] at hj'
      obtain ⟨v, hv, hcr⟩ := ((hR t row hr).lie l hm).cell hj' (j := 0) (p := .int .u8 m) rfl
      have := hcr.rel.int_inv
      subst this
      rw [← hv, hsz]
      congr 2
      omega
     ·cases hj'
    | slr0 _ _ row' A hr' hn =>
     have hlen : ns = [] := by
      have := congrArg List.length h1
      simp at this
      exact List.eq_nil_of_length_eq_zero (by omega)
     subst hlen
     cases A with
     | none => exact ⟨.string ByteArray.empty, by rw [conv]; simp [Conv.bytesToString], .base _ _ (.str [])⟩
     | some a =>
      refine ⟨.string ByteArray.empty, ?_, .base _ _ (.str [])⟩
      rw [conv]
      have := run_bytesToString (P := P) w a 0 0 [] (by simpa using run_loadCells_list (P := P) w a [] (fun j v hj => by simp at hj))
      simpa using this
   ·cases h
end
section
variable {w : World} {O : Nat → Prop} {μ : Mu} {R : Rows} {P : Program}
theorem VM (vs : List Value) : ∀ (k off : Nat) (A : Array Value), off + k + vs.length ≤ A.size →
  ((vs.zipIdx k).foldl (fun cs (x : Value × Nat) => cs.setIfInBounds (off + x.2) x.1) A).toList = A.toList.take (off + k) ++ vs ++ A.toList.drop (off + k + vs.length) := by
 induction vs with
 | nil => intro k off A _; simp
 | cons v vs ih =>
  intro k off A h
  simp only [List.length_cons] at h
  simp only [List.zipIdx_cons, List.foldl_cons]
  rw [ih (k + 1) off _ (by simp; omega)]
  rw [Array.toList_setIfInBounds]
  have hlt : off + k < A.toList.length := by simp; omega
  have e1 : (A.toList.set (off + k) v).take (off + (k + 1)) = A.toList.take (off + k) ++ [v] := by
   rw [← Nat.add_assoc, List.take_succ_eq_append_getElem (by simpa using hlt), List.take_set, List.set_eq_of_length_le (by simp; omega)]
   simp
  have e2 : (A.toList.set (off + k) v).drop (off + (k + 1) + vs.length) = A.toList.drop (off + k + (v :: vs).length) := by
   rw [List.drop_set_of_lt (by omega)]
   congr 1
   simp only [List.length_cons]
   omega
  rw [e1, e2]
  simp
theorem kY [BA] {place : Nat → Option (Nat × Nat)} {s : EY} {a : Act} : ∀ (pl : List (Nat × Operand)) (parts : List (Nat × Nat × DD)) (z : List PV) (A : List Value) (q : List PV),
  pl.length = parts.length →
  (∀ (j : Nat) (i : Nat) (x : Operand) (off sz : Nat) (y : DD), pl[j]? = some (i, x) → parts[j]? = some (off, sz, y) → place i = some (off, sz) ∧ ∀ p, y.ev s = some p → D8 w O μ R p (a.eval x)) →
  A.length = z.length → (∀ p ∈ z, p.one = true) → (∀ (j : Nat) (p : PV) (u : Value), z[j]? = some p → A[j]? = some u → D8 w O μ R p u) → lay z parts s = some q →
  ∃ B : List Value, Instr.fill place A.toArray (pl.map fun x => (x.1, a.eval x.2)) = some B.toArray ∧ B.length = q.length ∧ (∀ p ∈ q, p.one = true) ∧
   ∀ (j : Nat) (p : PV) (u : Value), q[j]? = some p → B[j]? = some u → D8 w O μ R p u
 | [], parts, z, A, q, hl, _, hA, hz, hr, h => by
  cases parts with
  | nil => simp only [lay, Option.some.injEq] at h; subst h; exact ⟨A, rfl, hA, hz, hr⟩
  | cons => simp at hl
 | (i, x) :: pl, parts, z, A, q, hl, hp, hA, hz, hr, h => by
  cases parts with
  | nil => simp at hl
  | cons y parts =>
   obtain ⟨off, sz, y⟩ := y
   obtain ⟨hplace, hrel⟩ := hp 0 i x off sz y rfl rfl
   simp only [lay] at h
   cases hy : y.ev s with
   | none => simp [hy] at h
   | some p =>
    simp only [hy] at h
    split at h
    ·rename_i hc
     obtain ⟨hc1, hc2, hc3⟩ := hc
     obtain ⟨vs, hv1, hv2, hv3⟩ := (hrel p hy).cells
     have hvs : vs.length = sz := by omega
     have hone : ∀ q ∈ z.take off ++ p.cells ++ z.drop (off + sz), q.one = true := by
      intro r hm
      rcases List.mem_append.1 hm with hm | hm
      ·rcases List.mem_append.1 hm with hm | hm
       ·exact hz r (List.mem_of_mem_take hm)
       ·exact List.all_eq_true.1 hc3 r hm
      ·exact hz r (List.mem_of_mem_drop hm)
     obtain ⟨B, hB, hB2⟩ := kY (place := place) (a := a) pl parts (z.take off ++ p.cells ++ z.drop (off + sz)) (A.take off ++ vs ++ A.drop (off + sz)) q (by simpa using hl)
      (fun j => hp (j + 1)) (by simp [hv2, hA]) hone (fun j r u hj hu => by
       have l1 : (z.take off).length = off := by simp; omega
       have l2 : (A.take off).length = off := by simp; omega
       rw [List.append_assoc] at hj hu
       rcases Nat.lt_or_ge j off with h1 | h1
       ·rw [List.getElem?_append_left (by omega), List.getElem?_take, if_pos h1] at hj hu
        exact hr j r u hj hu
       ·rw [List.getElem?_append_right (by omega), l1] at hj
        rw [List.getElem?_append_right (by omega), l2] at hu
        rcases Nat.lt_or_ge (j - off) sz with h2 | h2
        ·rw [List.getElem?_append_left (by omega)] at hj hu
         exact hv3 _ r u hj hu
        ·rw [List.getElem?_append_right (by omega), List.getElem?_drop] at hj hu
         rw [hc1] at hj
         rw [hvs] at hu
         exact hr _ r u hj hu) h
     refine ⟨B, ?_, hB2⟩
     simp only [List.map_cons, Instr.fill, hplace, hv1]
     have hsz1 : vs.toArray.size = sz := by simpa using hvs
     have hsz2 : A.toArray.size = z.length := by simpa using hA
     rw [hsz1, hsz2, if_neg (by simp; omega)]
     rw [← hB]
     congr 1
     have := VM vs 0 off A.toArray (by simp; omega)
     simp only [Nat.add_zero, hvs] at this
     rw [show A.take off ++ vs ++ A.drop (off + sz) = (List.foldl (fun cs (x : Value × Nat) => cs.setIfInBounds (off + x.2) x.1) A.toArray (vs.zipIdx 0)).toList from this.symm]
     rw [Array.toArray_toList]
     rw [← Array.foldl_toList]
     simp
    ·cases h
end
def V9 (P : Program) (kinds : TypeId → Option (List CK)) : Nat → List Field → Option (List CK)
 | _, [] => some []
 | off, f :: r => match kinds f.type, V9 P kinds (off + (PW P f.type).getD 0) r with
  | some k1, some k2 => if f.name ≠ "_" ∧ f.offset = off ∧ PW P f.type = some k1.length ∧ 0 < k1.length then some (k1 ++ k2) else none
  | _, _ => none
def N8 (P : Program) : Nat → TypeId → Option (List CK)
 | 0, _ => none
 | d + 1, t => match P.underlying t with
  | some (.int k) => if PW P t = some 1 then some [.i k] else none
  | some .bool => if PW P t = some 1 then some [.b] else none
  | some .string => if PW P t = some 1 then some [.s] else none
  | some (.struct fs) => if P.stoodInHeld t = true then none else V9 P (N8 P d) 0 fs.toList
  | _ => none
section
variable {w : World} {O : Nat → Prop} {μ : Mu} {R : Rows} {P : Program}
theorem d9 {ks : List CK} {xs ys : List PV} {b : Bool} (h : RO ks xs ys = some b) : xs.length = ks.length ∧ ys.length = ks.length := by
 induction ks generalizing xs ys b with
 | nil => cases xs <;> cases ys <;> simp [RO] at h ⊢
 | cons k ks ih =>
  cases xs with
  | nil => simp [RO] at h
  | cons x xs =>
   cases ys with
   | nil => simp [RO] at h
   | cons y ys =>
    simp only [RO] at h
    cases hx : Eh k x y with
    | none => simp [hx] at h
    | some c =>
     cases hr : RO ks xs ys with
     | none => simp [hx, hr] at h
     | some c' => have := ih hr; simp [this.1, this.2]
theorem lI {k1 k2 : List CK} {xs ys : List PV} {b : Bool} (h : RO (k1 ++ k2) xs ys = some b) :
  ∃ b1 b2, RO k1 (xs.take k1.length) (ys.take k1.length) = some b1 ∧ RO k2 (xs.drop k1.length) (ys.drop k1.length) = some b2 ∧ b = (b1 && b2) := by
 induction k1 generalizing xs ys b with
 | nil => exact ⟨true, b, by simp [RO], by simpa using h, by simp⟩
 | cons k k1 ih =>
  cases xs with
  | nil => simp [RO] at h
  | cons x xs =>
   cases ys with
   | nil => simp [RO] at h
   | cons y ys =>
    simp only [List.cons_append, RO] at h
    cases hx : Eh k x y with
    | none => simp [hx] at h
    | some c =>
     cases hr : RO (k1 ++ k2) xs ys with
     | none => simp [hx, hr] at h
     | some c' =>
      simp only [hx, hr, Option.some.injEq] at h
      obtain ⟨b1, b2, h1, h2, h3⟩ := ih hr
      exact ⟨c && b1, b2, by simp [RO, hx, h1], by simpa using h2, by rw [← h, h3, Bool.and_assoc]⟩
structure EK (w : World) (O : Nat → Prop) (μ : Mu) (R : Rows) (cs : List PV) (vs : List Value) : Prop where
 len : vs.length = cs.length
 rel : ∀ (j : Nat) (p : PV) (u : Value), cs[j]? = some p → vs[j]? = some u → D8 w O μ R p u
theorem EK.part {cs : List PV} {vs : List Value} (h : EK w O μ R cs vs) (off sz : Nat) : EK w O μ R ((cs.drop off).take sz) ((vs.drop off).take sz) := by
 refine ⟨by simp [h.len], fun j p u hj hu => ?_⟩
 rw [List.getElem?_take] at hj hu
 split at hj
 ·rename_i hlt
  rw [if_pos hlt] at hu
  rw [List.getElem?_drop] at hj hu
  exact h.rel _ p u hj hu
 ·cases hj
def zS (P : Program) (t : TypeId) (us : List Value) (u : Value) : Prop := (FQ P t = some true ∧ u = .agg us.toArray) ∨ (FQ P t = some false ∧ us = [u])
theorem bJ [BA] {t : TypeId} {sz : Nat} (hz : PW P t = some sz) (ha : FQ P t = some true ∨ (FQ P t = some false ∧ sz = 1)) (us : List Value) (off : Nat) (ho : off + sz ≤ us.length) :
  ∃ u, (part t us.toArray off).run P w = .ok u w ∧ zS P t ((us.drop off).take sz) u := by
 rcases ha with ha | ⟨ha, rfl⟩
 ·refine ⟨.agg ((us.drop off).take sz).toArray, ?_, .inl ⟨ha, rfl⟩⟩
  simp [part, TM ha, HZ hz]
 ·have hu : us[off]? = some (us[off]'(by omega)) := List.getElem?_eq_getElem (by omega)
  refine ⟨us[off]'(by omega), by simp [part, TM ha, hu], .inr ⟨ha, ?_⟩⟩
  rw [List.drop_eq_getElem_cons (by omega)]
  rfl
theorem kK {d : Nat} {t : TypeId} {ks : List CK} (h : N8 P d t = some ks) : FQ P t = some true ∨ (FQ P t = some false ∧ ks.length = 1) := by
 cases d with
 | zero => simp [N8] at h
 | succ d =>
  rw [N8] at h
  unfold FQ
  cases hu : P.underlying t with
  | none => simp [hu] at h
  | some e =>
   cases e <;> simp only [hu] at h ⊢ <;> try (cases h; done)
   case struct fs => exact .inl trivial
   all_goals
    split at h
    ·cases h; exact .inr ⟨trivial, rfl⟩
    ·cases h
theorem xR [BA] : ∀ (d : Nat) (t : TypeId) (ks : List CK), N8 P d t = some ks → ∀ (m : Nat) (xs ys : List PV) (us vs : List Value) (b : Bool),
  EK w O μ R xs us → EK w O μ R ys vs → RO ks xs ys = some b → ∀ u v, zS P t us u → zS P t vs v → (Op.equalIn (d + m) t u v).run P w = .ok b w := by
 intro d
 induction d with
 | zero => intro t ks h; simp [N8] at h
 | succ d ih =>
  intro t ks h m xs ys us vs b hx hy hc u v hu hv
  rw [show d + 1 + m = (d + m) + 1 by omega]
  rw [N8] at h
  have one : ∀ (k : CK), ks = [k] → FQ P t = some false → ∃ x y, xs = [x] ∧ ys = [y] ∧ Eh k x y = some b ∧ D8 w O μ R x u ∧ D8 w O μ R y v := by
   intro k hk ha
   subst hk
   have hl := d9 hc
   match xs, ys, hl with
   | [x], [y], _ =>
    have hu' : us = [u] := by
     rcases hu with ⟨h1, _⟩ | ⟨_, h1⟩
     ·rw [ha] at h1; cases h1
     ·exact h1
    have hv' : vs = [v] := by
     rcases hv with ⟨h1, _⟩ | ⟨_, h1⟩
     ·rw [ha] at h1; cases h1
     ·exact h1
    subst hu'
    subst hv'
    refine ⟨x, y, rfl, rfl, ?_, hx.rel 0 x u rfl rfl, hy.rel 0 y v rfl rfl⟩
    simp only [RO] at hc
    cases hq : Eh k x y with
    | none => simp [hq] at hc
    | some c => simp [hq] at hc; rw [hc]
  cases ht : P.underlying t with
  | none => simp [ht] at h
  | some e =>
   cases e <;> simp only [ht] at h <;> try cases h
   case int k =>
    split at h
    ·cases h
     obtain ⟨x, y, rfl, rfl, hq, hxu, hyv⟩ := one (.i k) rfl (by simp [FQ, ht])
     cases x <;> cases y <;> simp only [Eh] at hq <;> try cases hq
     cases hxu.int_inv
     cases hyv.int_inv
     split at hq
     ·rename_i hk
      cases hq
      obtain ⟨rfl, rfl⟩ := hk
      simp [Op.equalIn, run_underlying ht]
     ·cases hq
    ·cases h
   case bool =>
    split at h
    ·cases h
     obtain ⟨x, y, rfl, rfl, hq, hxu, hyv⟩ := one .b rfl (by simp [FQ, ht])
     cases x <;> cases y <;> simp only [Eh] at hq <;> try cases hq
     cases hxu.bool_inv
     cases hyv.bool_inv
     exact run_equalIn_bool w _ t _ _ ht
    ·cases h
   case string =>
    split at h
    ·cases h
     obtain ⟨x, y, rfl, rfl, hq, hxu, hyv⟩ := one .s rfl (by simp [FQ, ht])
     cases x <;> cases y <;> simp only [Eh] at hq <;> try cases hq
     cases hxu.str_inv
     cases hyv.str_inv
     rw [run_equalIn_string w _ t _ _ ht]
     simp
    ·cases h
   case struct fs =>
    split at h
    ·cases h
    ·rename_i hst
     have ha : FQ P t = some true := by simp [FQ, ht]
     have hu' : u = .agg us.toArray := by
      rcases hu with ⟨_, h1⟩ | ⟨h1, _⟩
      ·exact h1
      ·rw [ha] at h1; cases h1
     have hv' : v = .agg vs.toArray := by
      rcases hv with ⟨_, h1⟩ | ⟨h1, _⟩
      ·exact h1
      ·rw [ha] at h1; cases h1
     subst hu'
     subst hv'
     have hfo : P.fieldsOf t = fs := by simp [Program.fieldsOf, ht]
     rw [run_equalIn_struct w _ t _ _ (by rw [hfo]; exact ht) (by simpa using hst), hfo]
     have inner : ∀ (l : List Field) (off : Nat) (ks : List CK) (b : Bool), V9 P (N8 P d) off l = some ks → RO ks (xs.drop off) (ys.drop off) = some b →
       (Op.eqFields (d + m) us.toArray vs.toArray l).run P w = .ok b w := by
      intro l
      induction l with
      | nil =>
       intro off ks b hk hc
       simp only [V9, Option.some.injEq] at hk
       subst hk
       have hl := d9 hc
       cases hxd : xs.drop off with
       | cons => rw [hxd] at hl; simp at hl
       | nil =>
        cases hyd : ys.drop off with
        | cons => rw [hyd] at hl; simp at hl
        | nil =>
         rw [hxd, hyd] at hc
         simp [RO] at hc
         subst hc
         simp [Op.eqFields]
      | cons f r ihr =>
       intro off ks b hk hc
       rw [V9] at hk
       cases hk1 : N8 P d f.type with
       | none => simp [hk1] at hk
       | some k1 =>
        cases hk2 : V9 P (N8 P d) (off + (PW P f.type).getD 0) r with
        | none => simp [hk1, hk2] at hk
        | some k2 =>
         simp only [hk1, hk2] at hk
         split at hk
         ·rename_i hcond
          obtain ⟨hname, hoff, hsz, hpos⟩ := hcond
          cases hk
          rw [hsz] at hk2
          simp only [Option.getD_some] at hk2
          obtain ⟨b1, b2, h1, h2, rfl⟩ := lI hc
          have hl := d9 hc
          simp only [List.length_drop, List.length_append] at hl
          have hlx := hx.len
          have hly := hy.len
          have hfit : off + k1.length ≤ us.length ∧ off + k1.length ≤ vs.length := by omega
          have hag := kK hk1
          obtain ⟨p, hp1, hp2⟩ := bJ (w := w) hsz hag us off hfit.1
          obtain ⟨q, hq1, hq2⟩ := bJ (w := w) hsz hag vs off hfit.2
          have heq := ih f.type k1 hk1 m _ _ _ _ b1 (hx.part off k1.length) (hy.part off k1.length) h1 p q hp2 hq2
          rw [List.drop_drop, List.drop_drop] at h2
          have hrest := ihr (off + k1.length) k2 b2 hk2 h2
          simp only [Op.eqFields, hname, ne_eq, not_false_eq_true, if_true, Sem.run_bind, hoff, hp1, hq1, heq, Result.andThen_ok, Sem.run_ite]
          cases b1
          ·simp
          ·simpa using hrest
         ·cases hk
     exact inner fs.toList 0 ks b h (by simpa using hc)
end
end Go.Vd
end
