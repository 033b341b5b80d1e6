/- A part of the proof: a logic of values, rows and steps. -/
import Derived.Test.YtbndinjjpafmjaaDoorA3
import Derived.SliceStrings
import Derived.Shelf.Strings.OnBuilder
import Derived.Lib.Bytealg
section
set_option linter.unusedVariables false
set_option linter.unusedSimpArgs false
namespace Go.Vd
open Go.RowKit
def After (K : St → Prop) (Q : Xt → St → Prop) : Xt → St → Prop
  | .normal, st => K st
  | .exit i, st => Q (.exit i) st
  | .ret, st => Q .ret st
theorem Norm.refl [Glob] {T : Nat → Bool} {st : St} : Norm T st st := fun _ _ _ _ μ _ _ _ h => ⟨μ, h⟩
theorem Norm.trans [Glob] {T : Nat → Bool} {a b c : St} (h : Norm T a b) (k : Norm T b c) : Norm T a c := by
  intro w0 O L n μ x w hL hx
  obtain ⟨μ1, h1⟩ := h w0 O L n μ x w hL hx
  exact k w0 O L n μ1 x w hL h1
def IC.un : IC → IC
  | .seq a b => .seq a.un b.un
  | .cond c a b => .cond c a.un b.un
  | .block id b => .block id b.un
  | .loop b => .loop b.un
  | .mark a => a.un
  | c => c
def Wp [Glob] (P : Program) (T : Nat → Bool) : IC → St → (Xt → St → Prop) → Prop
  | .skip, st, Q => Q .normal st
  | .reg ios, st, Q => Wr P T ios st (Q .normal)
  | .regd m ios, st, Q => ∃ fin, Steps0 P (ios.take m) st fin ∧ Wr P T (ios.drop m) fin (Q .normal)
  | .regf m f ds ios, st, Q => ∃ fin fin', Steps0 P (ios.take m) st fin ∧ AnyW P T ds ios (ios.length - m) (List.range m) fin fin' ∧ AnyW P T ds ios (ios.length - m + 1) ((List.range m).filter fun i => !Nat.beq i f) (unrun ios f st fin) fin' ∧ Q .normal fin'
  | .rega ds ios, st, Q => ∃ fin, AnyW P T ds ios ios.length [] st fin ∧ Q .normal fin
  | .seq a b, st, Q => Wp P T a st (After (fun s => Wp P T b s Q) Q)
  | .cond c a b, st, Q => ∃ t, c.ev st.s = some (.bool t) ∧ (t = true → Wp P T a st Q) ∧ (t = false → Wp P T b st Q)
  | .block id b, st, Q => Wp P T b st (fun e s => Q (e.blk id) s)
  | .loop b, st, Q => ∃ e st', Ex P T (.loop b.un) st e st' ∧ Q e st'
  | .exit id, st, Q => Q (.exit id) st
  | .ret, st, Q => Q .ret st
  | .mark a, st, Q => Wp P T a st (fun e s => ∃ s', Norm T s s' ∧ Q e s')
section
variable {P : Program} {T : Nat → Bool}
theorem Wr.ex [Glob] : ∀ {ios : List Ins} {st : St} {K : St → Prop}, Wr P T ios st K → ∃ st', Steps P T ios st st' ∧ K st'
  | [], st, K, h => ⟨st, .nil, h⟩
  | io :: r, st, K, ⟨st0, st1, hn, h1, h2⟩ => by
    obtain ⟨st', h3, h4⟩ := Wr.ex h2
    exact ⟨st', .norm hn (.cons h1 h3), h4⟩
theorem Wp.ex [Glob] : ∀ {c : IC} {st : St} {Q : Xt → St → Prop}, Wp P T c st Q → ∃ e st', Ex P T c.un st e st' ∧ Q e st'
  | .skip, st, Q, h => ⟨.normal, st, .skip, h⟩
  | .reg ios, st, Q, h => by
    obtain ⟨st', h1, h2⟩ := Wr.ex h
    exact ⟨.normal, st', .reg h1, h2⟩
  | .regd m ios, st, Q, ⟨fin, h0, h⟩ => by
    obtain ⟨st', h1, h2⟩ := Wr.ex h
    exact ⟨.normal, st', .regd h0 h1, h2⟩
  | .regf m f ds ios, st, Q, ⟨fin, fin', h0, h1, h2, h⟩ => ⟨.normal, fin', .regf h0 h1 h2, h⟩
  | .rega ds ios, st, Q, ⟨fin, h0, h⟩ => ⟨.normal, fin, .rega h0, h⟩
  | .seq a b, st, Q, h => by
    obtain ⟨e, st1, h1, h2⟩ := Wp.ex (c := a) h
    cases e with
    | normal =>
      obtain ⟨e', st2, h3, h4⟩ := Wp.ex (c := b) h2
      exact ⟨e', st2, .seq h1 h3, h4⟩
    | exit i => exact ⟨_, st1, .seqx h1 (by simp), h2⟩
    | ret => exact ⟨_, st1, .seqx h1 (by simp), h2⟩
  | .cond c a b, st, Q, ⟨t, hc, h1, h2⟩ => by
    cases t with
    | true =>
      obtain ⟨e, st', h3, h4⟩ := Wp.ex (c := a) (h1 rfl)
      exact ⟨e, st', .cond true hc h3, h4⟩
    | false =>
      obtain ⟨e, st', h3, h4⟩ := Wp.ex (c := b) (h2 rfl)
      exact ⟨e, st', .cond false hc h3, h4⟩
  | .block id b, st, Q, h => by
    obtain ⟨e, st', h1, h2⟩ := Wp.ex (c := b) h
    exact ⟨_, st', .block h1, h2⟩
  | .loop b, st, Q, h => h
  | .exit id, st, Q, h => ⟨_, st, .exit, h⟩
  | .ret, st, Q, h => ⟨_, st, .ret, h⟩
  | .mark a, st, Q, h => by
    obtain ⟨e, st1, h1, s', h2, h3⟩ := Wp.ex (c := a) h
    exact ⟨e, s', .normr h1 h2, h3⟩
theorem Wr.mono [Glob] : ∀ {ios : List Ins} {st : St} {K K' : St → Prop}, Wr P T ios st K → (∀ s, K s → K' s) → Wr P T ios st K'
  | [], _, _, _, h, hk => hk _ h
  | _ :: _, _, _, _, ⟨st0, st1, hn, h1, h2⟩, hk => ⟨st0, st1, hn, h1, Wr.mono h2 hk⟩
theorem After.mono {K K' : St → Prop} {Q Q' : Xt → St → Prop} (hk : ∀ s, K s → K' s) (hq : ∀ e s, Q e s → Q' e s) : ∀ e s, After K Q e s → After K' Q' e s
  | .normal, s, h => hk s h
  | .exit i, s, h => hq _ s h
  | .ret, s, h => hq _ s h
theorem Wp.mono [Glob] : ∀ {c : IC} {st : St} {Q Q' : Xt → St → Prop}, Wp P T c st Q → (∀ e s, Q e s → Q' e s) → Wp P T c st Q'
  | .skip, st, Q, Q', h, hq => hq _ _ h
  | .reg ios, st, Q, Q', h, hq => Wr.mono h (hq _)
  | .regd m ios, st, Q, Q', ⟨fin, h0, h⟩, hq => ⟨fin, h0, Wr.mono h (hq _)⟩
  | .regf m f ds ios, st, Q, Q', ⟨fin, fin', h0, h1, h2, h⟩, hq => ⟨fin, fin', h0, h1, h2, hq _ _ h⟩
  | .rega ds ios, st, Q, Q', ⟨fin, h0, h⟩, hq => ⟨fin, h0, hq _ _ h⟩
  | .seq a b, st, Q, Q', h, hq => Wp.mono (c := a) h (After.mono (fun s hs => Wp.mono (c := b) hs hq) hq)
  | .cond c a b, st, Q, Q', ⟨t, hc, h1, h2⟩, hq => ⟨t, hc, fun ht => Wp.mono (h1 ht) hq, fun ht => Wp.mono (h2 ht) hq⟩
  | .block id b, st, Q, Q', h, hq => Wp.mono (c := b) h fun e s => hq _ s
  | .loop b, st, Q, Q', ⟨e, st', h1, h2⟩, hq => ⟨e, st', h1, hq _ _ h2⟩
  | .exit id, st, Q, Q', h, hq => hq _ _ h
  | .ret, st, Q, Q', h, hq => hq _ _ h
  | .mark a, st, Q, Q', h, hq => Wp.mono (c := a) h fun e s ⟨s', h1, h2⟩ => ⟨s', h1, hq e s' h2⟩
theorem no_fresh {r : Rows} : ∀ (t : Nat) (row : Row), noRows t = some row → r t = none := fun t row h => by simp [noRows] at h
theorem wn [Glob] {io : Ins} {r : List Ins} {st st1 : St} {K : St → Prop} (hn : Norm T st st1) (k : Wr P T (io :: r) st1 K) : Wr P T (io :: r) st K := by
  obtain ⟨st0, st', h1, h2, h3⟩ := k
  exact ⟨st0, st', hn.trans h1, h2, h3⟩
theorem wp [Glob] {d : Option Nat} {op : IOp} {r : List Ins} {st : St} {K : St → Prop} {p : PV} (h : pop st.s st.r op = some p) (k : Wr P T r (st.put d p) K) : Wr P T (⟨d, op, none⟩ :: r) st K :=
  ⟨_, _, .refl, .run rfl (.pur p noRows (.pop h) no_fresh), k⟩
theorem fresh1 {r : Rows} {t : Nat} {x : Row} (h : r t = none) : ∀ u row, upd noRows t (some x) u = some row → r u = none := by
  intro u row hu
  by_cases hut : u = t
  · rw [hut]; exact h
  · rw [upd_ne _ _ hut] at hu; cases hu
def okEl (sz : Nat) : List PV → Bool
  | [] => true
  | p :: r => Nat.beq p.cells.length sz && (p.cells.all PV.one && (p.free && okEl sz r))
theorem okEl_spec [Glob] {sz : Nat} : ∀ {l : List PV}, okEl sz l = true → ∀ p ∈ l, p.cells.length = sz ∧ (∀ q ∈ p.cells, q.one = true) ∧ p.free = true
  | [], _, p, hp => by cases hp
  | x :: r, h, p, hp => by
    simp only [okEl, Bool.and_eq_true, List.all_eq_true] at h
    obtain ⟨h1, h2, h3, h4⟩ := h
    rcases List.mem_cons.1 hp with e | e
    · subst e; exact ⟨Nat.eq_of_beq_eq_true h1, h2, h3⟩
    · exact okEl_spec h4 p e
theorem obsl [Glob] (t : Nat) {d : Option Nat} {sz : Nat} {xs : List Opd} {st : St} {ps : List PV} (h : evs st.s xs = some ps) (he : okEl sz ps = true) (ht : st.r t = none) (hty : tyOf t = none := by rfl) :
    OpS P T (.bsl sz xs) d st (St.put ⟨st.s, upd st.r t (some ⟨sz, true, ps⟩)⟩ d (.slr t 0 ps.length)) := by
  rw [← mrg_one]
  exact .pur _ _ (.bsl ps t h (okEl_spec he) hty) (fresh1 ht)
theorem obox [Glob] (t : Nat) {d : Option Nat} {e : Nat} {x : Opd} {st : St} {p : PV} (h : x.ev st.s = some p) (h0 : Nat.ble 1 p.cells.length = true) (h1 : p.cells.all PV.one = true) (ht : st.r t = none) (hty : tyOk t e = true) :
    OpS P T (.box e x) d st (St.put ⟨st.s, upd st.r t (some ⟨p.cells.length, false, [p]⟩)⟩ d (.ptr t 0 0)) := by
  rw [← mrg_one]
  exact .pur _ _ (.box p t h (Nat.le_of_ble_eq_true h0) (List.all_eq_true.1 h1) hty) (fresh1 ht)
theorem ocvs [Glob] (t : Nat) {d : Option Nat} {x : Opd} {st : St} {b : List UInt8} (h : x.ev st.s = some (.str b)) (ht : st.r t = none) (hty : tyOf t = none := by rfl) : OpS P T (.cvs x) d st (St.put ⟨st.s, upd st.r t (some ⟨1, true, bytesP b⟩)⟩ d (.slr t 0 b.length)) := by
  rw [← mrg_one]
  exact .pur _ _ (.cvs b t h hty) (fresh1 ht)
theorem omks [Glob] (t : Nat) {d : Option Nat} {sz bytes : Nat} {z : PV} {x : Opd} {st : St} {k : IntKind} {n : Int} {m : Nat} (h : x.ev st.s = some (.int k n)) (hn : n = (m : Int)) (hb : bytes * m ≤ 281474976710656) (hm : m ≤ 9223372036854775807) (hz : z.free = true) (ht : st.r t = none) (hty : tyOf t = none := by rfl) :
    OpS P T (.mks sz bytes z x) d st (St.put ⟨st.s, upd st.r t (some ⟨sz, true, List.replicate m z⟩)⟩ d (.slr t 0 m)) := by
  rw [← mrg_one]
  subst hn
  exact .pur _ _ (.mks k m t h hb hm hz hty) (fresh1 ht)
theorem oapp [Glob] (t' : Nat) {d : Option Nat} {e sz bytes : Nat} {x y : Opd} {st : St} {p q : PV} {tok : Option Nat} {xs ys : List PV} (hp : x.ev st.s = some p) (hq : y.ev st.s = some q) (hb : basev st.r sz p = some (tok, xs)) (he : elemsv st.r sz q = some ys)
    (hT : ∀ t, tok = some t → T t = false) (hb0 : Nat.ble 1 bytes = true) (hle : (xs.length + ys.length) * bytes ≤ 140737488355328) (ht' : st.r t' = none) (hty : appOk t' e p = true := by rfl) : OpS P T (.app e sz bytes x y) d st (St.put (appSt st tok t' ⟨sz, true, xs ++ ys⟩) d (.slr t' 0 (xs.length + ys.length))) :=
  .app p q tok xs ys t' hp hq hb hT he (Nat.le_of_ble_eq_true hb0) hle ht' hty
theorem osto [Glob] {d : Option Nat} {sz : Nat} {p q : Opd} {st : St} {t i off : Nat} {row : Row} {x y : PV} (hp : p.ev st.s = some (.ptr t i off)) (hq : q.ev st.s = some x) (ht : st.r t = some row) (hi : row.cs[i]? = some y)
    (hx : Nat.beq x.cells.length sz = true) (h0 : Nat.ble 1 sz = true) (h1 : x.cells.all PV.one = true) (hfit : Nat.ble (off + sz) row.sz = true) (hpr : row.pr = true → x.free = true) :
    OpS P T (.store sz p q) d st (St.put ⟨st.s, upd st.r t (some ⟨row.sz, row.pr, row.cs.set i (spl y off x.cells)⟩)⟩ d .undef) :=
  .store t i off row x y hp hq ht hi (Nat.eq_of_beq_eq_true hx) (Nat.le_of_ble_eq_true h0) (List.all_eq_true.1 h1) (Nat.le_of_ble_eq_true hfit) hpr
theorem ocall [Glob] {d : Option Nat} {f : FuncId} {xs : List Opd} {st : St} {ps qs : List PV} {res : PV} (h : evs st.s xs = some ps) (hq : ps.map (PV.bor noRows st.r) = qs) (hs : Sat P f noRows qs res noRows) (hf : (ps.all PV.free || res.nosl) = true) (ht : res.free = true)
    (htk : PV.tks (fun t => (st.r t).isSome) ps = true) : OpS P T (.call f xs) d st (st.put d res) := by
  refine .pur res noRows (.call ps res noRows h ?_ (hq ▸ hs) ht (fun t row h => by simp [noRows] at h) (PV.tks_mem htk)) no_fresh
  rw [Bool.or_eq_true, List.all_eq_true] at hf
  rcases hf with hf | hf
  · exact .inl fun p hp => hf p hp
  · exact .inr ⟨hf, fun t row h => by simp [noRows] at h⟩
theorem opop [Glob] {d : Option Nat} {op : IOp} {st : St} {p : PV} (h : pop st.s st.r op = some p) : OpS P T op d st (st.put d p) := .pur p noRows (.pop h) no_fresh
theorem gy {s : Slots} {g : Nat} {c b : Bool} (h : s g = some (.bool c)) (hc : c = b) : gok s (some (g, b)) = some true := by
  subst hc
  simp [gok, h]
theorem gn {s : Slots} {g : Nat} {c b : Bool} (h : s g = some (.bool c)) (hc : c = !b) : gok s (some (g, b)) = some false := by
  subst hc
  cases b <;> simp [gok, h]
theorem gu {s : Slots} {g : Nat} {b : Bool} (h : s g = some .undef) : gok s (some (g, b)) = some false := by simp [gok, h]
theorem Wr.app [Glob] : ∀ {l m : List Ins} {st : St} {K : St → Prop}, Wr P T l st (fun s => Wr P T m s K) → Wr P T (l ++ m) st K
  | [], _, _, _, h => h
  | _ :: _, _, _, _, ⟨s0, s1, hn, hs, h⟩ => ⟨s0, s1, hn, hs, Wr.app h⟩
def Wr0 [Glob] (P : Program) : List Ins → St → (St → Prop) → Prop
  | [], st, K => K st
  | io :: r, st, K => (gok st.s io.guard = some true ∧ ∃ p N, PurS P io.op st.s st.r p N ∧ (∀ t row, N t = some row → st.r t = none) ∧ Wr0 P r (St.put ⟨st.s, mrg N st.r⟩ io.dst p) K) ∨
    (gok st.s io.guard = some false ∧ Wr0 P r (st.put io.dst .undef) K)
theorem Wr0.steps [Glob] : ∀ {l : List Ins} {st : St} {K : St → Prop}, Wr0 P l st K → ∃ fin, Steps0 P l st fin ∧ K fin
  | [], st, K, h => ⟨st, .nil, h⟩
  | io :: r, st, K, .inl ⟨hg, p, N, hp, hn, h⟩ => by
    obtain ⟨fin, h1, h2⟩ := Wr0.steps h
    exact ⟨fin, .run p N hg hp hn h1, h2⟩
  | io :: r, st, K, .inr ⟨hg, h⟩ => by
    obtain ⟨fin, h1, h2⟩ := Wr0.steps h
    exact ⟨fin, .skip hg h1, h2⟩
end
end Go.Vd
end
section
set_option linter.unusedVariables false
set_option linter.unusedSimpArgs false
namespace Go.Vd
open Go.RowKit
def ofL {α : Type} : List (Nat × α) → Nat → Option α
  | [], _ => none
  | (k, v) :: r, n => bif Nat.beq n k then some v else ofL r n
def AllAt {α : Type} (f : Nat → Option α) : List (Nat × α) → Prop
  | [] => True
  | (k, v) :: r => f k = some v ∧ AllAt f r
theorem AllAt.get [Glob] {α : Type} {f : Nat → Option α} : ∀ {l : List (Nat × α)}, AllAt f l → ∀ k v, ofL l k = some v → f k = some v
  | [], _, k, v, h => by simp [ofL] at h
  | (k', v') :: r, ⟨h1, h2⟩, k, v, h => by
    unfold ofL at h
    cases hk : Nat.beq k k' with
    | true => rw [hk] at h; cases h; rw [Nat.eq_of_beq_eq_true hk]; exact h1
    | false => rw [hk] at h; exact AllAt.get h2 k v h
theorem ofL_mem [Glob] {α : Type} : ∀ {l : List (Nat × α)} {k : Nat} {v : α}, ofL l k = some v → v ∈ l.map (·.2)
  | [], k, v, h => by simp [ofL] at h
  | (k', v') :: r, k, v, h => by
    unfold ofL at h
    cases hk : Nat.beq k k' with
    | true => rw [hk] at h; cases h; simp
    | false => rw [hk] at h; simp only [List.map_cons]; exact List.mem_cons_of_mem _ (ofL_mem h)
def rowsTk (f : Nat → Bool) : List Row → Bool
  | [] => true
  | r :: rs => r.tk f && rowsTk f rs
theorem rowsTk_mem [Glob] {f : Nat → Bool} : ∀ {l : List Row}, rowsTk f l = true → ∀ r ∈ l, r.tk f = true
  | [], _, r, h => by cases h
  | x :: xs, h, r, hr => by
    rw [rowsTk, Bool.and_eq_true] at h
    rcases List.mem_cons.1 hr with e | e
    · rw [e]; exact h.1
    · exact rowsTk_mem h.2 r e
section
variable {P : Program} {T : Nat → Bool}
theorem canonL [Glob] {st : St} (l : List (Nat × PV)) (m : List (Nat × Row)) (hs : AllAt st.s l) (hr : AllAt st.r m) (h1 : PV.tks (fun t => (ofL m t).isSome) (l.map (·.2)) = true) (h2 : rowsTk (fun t => (ofL m t).isSome) (m.map (·.2)) = true)
    (hT : ∀ t, T t = true → (ofL m t).isSome = true) : Norm T st ⟨ofL l, ofL m⟩ := by
  intro w0 O L n μ a w hL h
  refine ⟨μ, h.canon (fun k p hk => ⟨hs.get k p hk, PV.tks_mem h1 p (ofL_mem hk)⟩) (fun t row ht => ⟨hr.get t row ht, rowsTk_mem h2 row (ofL_mem ht)⟩) fun t ht => hT t (hL ▸ ht)⟩
def ffs (t : Nat) (row : Row) : Nat → Nat → Nat → PV := fun u lo n => bif Nat.beq u t then .sl row.sz ((row.cs.drop lo).take n) else .slr u lo n
def PV.frz (t : Nat) (row : Row) (p : PV) : PV := p.map (ffs t row) (kfp t)
def Row.frz (t : Nat) (r : Row) (row : Row) : Row := bif r.pr then r else ⟨r.sz, r.pr, r.cs.map (PV.frz t row)⟩
def frzS (t : Nat) (row : Row) (s : Slots) : Slots := fun k => (s k).map (PV.frz t row)
def frzR (t : Nat) (row : Row) (r : Rows) : Rows := fun u => bif Nat.beq u t then none else (r u).map (fun r => r.frz t row)
theorem ffs_one (t : Nat) (row : Row) (u lo n : Nat) : (ffs t row u lo n).one = true := by unfold ffs; cases Nat.beq u t <;> rfl
theorem PV.frz_one [Glob] {t : Nat} {row : Row} {p : PV} (h : p.one = true) : (p.frz t row).one = true := PV.map_one (ffs_one t row) (kfp_one t) p h
theorem PV.frz_cells [Glob] (t : Nat) (row : Row) (p : PV) : (p.frz t row).cells = p.cells.map (PV.frz t row) := PV.map_cells (ffs_one t row) (kfp_one t) p
theorem Row.frz_sz (t : Nat) (r row : Row) : (r.frz t row).sz = r.sz := by unfold Row.frz; cases r.pr <;> rfl
theorem Row.frz_pr (t : Nat) (r row : Row) : (r.frz t row).pr = r.pr := by unfold Row.frz; cases h : r.pr <;> simp [h]
theorem Row.frz_len (t : Nat) (r row : Row) : (r.frz t row).cs.length = r.cs.length := by unfold Row.frz; cases r.pr <;> simp
theorem frzR_inv [Glob] {t u : Nat} {row : Row} {R : Rows} {r : Row} (h : frzR t row R u = some r) : u ≠ t ∧ ∃ r', R u = some r' ∧ r = r'.frz t row := by
  unfold frzR at h
  by_cases hu : u = t
  · rw [hu, beq_true] at h; cases h
  · rw [beq_false hu, cond_false] at h
    obtain ⟨r', hr, rfl⟩ := Option.map_eq_some_iff.1 h
    exact ⟨hu, r', hr, rfl⟩
theorem frzR_of [Glob] {t u : Nat} {row : Row} {R : Rows} {r : Row} (hu : u ≠ t) (h : R u = some r) : frzR t row R u = some (r.frz t row) := by
  unfold frzR
  rw [beq_false hu, cond_false, h]
  rfl
theorem StRel.freeze [Glob] {w0 w : World} {O : Nat → Prop} {L : Lent} {n : Nat} {μ : Mu} {st : St} {a : Act} (h : StRel w0 O L n μ st a w) (t : Nat) (row : Row) (ht : st.r t = some row) (hpr : row.pr = true) (hT : L.T t = false) : StRel w0 O L n μ ⟨frzS t row st.s, frzR t row st.r⟩ a w := by
  have hO : ∀ b, Av O μ (frzR t row st.r) b → Av O μ st.r b := by
    rintro b (h1 | ⟨u, r, l, h1, h2, h3⟩)
    · exact .inl h1
    · obtain ⟨hu, r', hr, rfl⟩ := frzR_inv h1
      exact .inr ⟨u, r', l, hr, h2, h3⟩
  have hown : ∀ l, μ t = some l → ¬ Av O μ (frzR t row st.r) l.b := by
    rintro l hl (h1 | ⟨u, r, l', h1, h2, h3⟩)
    · exact (h.own t row l ht hl).1 h1
    · obtain ⟨hu, r', hr, rfl⟩ := frzR_inv h1
      exact hu (h.inj u t r' row l' l hr ht h2 hl h3)
  have hR : ∀ u r, u ≠ t → st.r u = some r → ∃ r', frzR t row st.r u = some r' ∧ r'.sz = r.sz ∧ r'.cs.length = r.cs.length :=
    fun u r hu hr => ⟨_, frzR_of hu hr, Row.frz_sz _ _ _, Row.frz_len _ _ _⟩
  have key : ∀ {p : PV} {v : Value}, Rel w (Av O μ st.r) μ st.r p v → Rel w (Av O μ (frzR t row st.r)) μ (frzR t row st.r) (p.frz t row) v := by
    intro p v hp
    refine Rel.map (fs := ffs t row) (fp := kfp t) (fun _ _ _ => rfl) (fun b _ hb => hO b hb) (ffs_one t row) (kfp_one t) (fun u lo m v hv => ?_) (fun u i o v hv => ?_) hp
    · unfold ffs
      by_cases hu : u = t
      · subst hu
        rw [beq_true]
        exact .base _ _ (sub_slice h.rows ht hpr hv hO hown)
      · rw [beq_false hu]
        cases hv with
        | base _ _ h => cases h
        | slr _ _ _ c r l hr hm hn hc hroom =>
          obtain ⟨r', h2, h3, h4⟩ := hR u r hu hr
          rw [← h3]
          exact .slr u lo m c r' l h2 hm (by omega) hc (by rw [h3]; exact hroom)
        | slr0 _ _ r A hr hn =>
          obtain ⟨r', h2, h3, h4⟩ := hR u r hu hr
          exact .slr0 u lo r' A h2 (by omega)
    · unfold kfp
      by_cases hu : u = t
      · rw [hu, beq_true]
        exact .base _ _ (.any v (hv.oneCell rfl))
      · rw [beq_false hu]
        cases hv with
        | base _ _ h => cases h
        | ptr _ _ _ r l hr hm hi ho =>
          obtain ⟨r', h2, h3, h4⟩ := hR u r hu hr
          rw [← h3]
          exact .ptr u i o r' l h2 hm (by omega) (by omega)
  refine ⟨h.dfr, h.size, h.fr, h.out, fun k p hk => ?_, fun u r hr => ?_, ?_, ?_, fun u hu => ?_⟩
  · obtain ⟨q, hq, rfl⟩ := Option.map_eq_some_iff.1 hk
    obtain ⟨v, hv, hrel⟩ := h.slot k q hq
    exact ⟨v, hv, key hrel⟩
  · obtain ⟨hu, r', hr', rfl⟩ := frzR_inv hr
    have hrr := h.row u r' hr'
    refine ⟨by rw [Row.frz_sz]; exact hrr.sz, fun x hx => ?_, fun hn => ?_, fun l hl => ?_, fun k hk l hl => by
      obtain ⟨e1, arr, fz, e2, e3⟩ := hrr.ty k hk l hl
      exact ⟨e1, arr, fz, e2, by rw [Row.frz_pr, Row.frz_sz]; exact e3⟩⟩
    · rw [Row.frz_sz]
      unfold Row.frz at hx
      cases hp : r'.pr with
      | true => rw [hp, cond_true] at hx; exact hrr.el x hx
      | false =>
        rw [hp, cond_false] at hx
        obtain ⟨y, hy, rfl⟩ := List.mem_map.1 hx
        obtain ⟨h1, h2⟩ := hrr.el y hy
        rw [PV.frz_cells]
        refine ⟨by simpa using h1, fun p hp' => ?_⟩
        obtain ⟨q, hq, rfl⟩ := List.mem_map.1 hp'
        exact PV.frz_one (h2 q hq)
    · have := hrr.non hn
      have hl := Row.frz_len t r' row
      rw [this] at hl
      exact List.eq_nil_of_length_eq_zero (by simpa using hl)
    · obtain ⟨arr, ety, fz, h1, h2, h3, h4, h5⟩ := hrr.lie l hl
      refine ⟨arr, ety, fz, h1, h2, by rw [Row.frz_len, Row.frz_sz]; exact h3, h4, fun i x j p hi hj => ?_⟩
      rw [Row.frz_sz, Row.frz_pr]
      unfold Row.frz at hi
      cases hp : r'.pr with
      | true =>
        rw [hp, cond_true] at hi
        obtain ⟨v, hv, hc⟩ := h5 i x j p hi hj
        refine ⟨v, hv, ?_⟩
        rw [hp] at hc
        unfold CellRel at hc ⊢
        rw [if_pos rfl] at hc ⊢
        exact hc.frame (fun _ _ _ => rfl) (fun b _ hb => hO b hb)
      | false =>
        rw [hp, cond_false] at hi
        rw [List.getElem?_map] at hi
        obtain ⟨y, hy, rfl⟩ := Option.map_eq_some_iff.1 hi
        rw [PV.frz_cells, List.getElem?_map] at hj
        obtain ⟨q, hq, rfl⟩ := Option.map_eq_some_iff.1 hj
        obtain ⟨v, hv, hc⟩ := h5 i y j q hy hq
        refine ⟨v, hv, ?_⟩
        rw [hp] at hc
        unfold CellRel at hc ⊢
        rw [if_neg (by simp)] at hc ⊢
        exact key hc
  · intro u u' r r' l l' h1 h2 h3 h4 h5
    obtain ⟨_, s, hs, _⟩ := frzR_inv h1
    obtain ⟨_, s', hs', _⟩ := frzR_inv h2
    exact h.inj u u' s s' l l' hs hs' h3 h4 h5
  · intro u r l h1 h2
    obtain ⟨_, s, hs, _⟩ := frzR_inv h1
    exact h.own u s l hs h2
  · obtain ⟨h1, r, h2⟩ := h.keep u hu
    have hne : u ≠ t := fun e => by rw [e, hT] at hu; cases hu
    exact ⟨h1, _, frzR_of hne h2⟩
theorem freeze [Glob] {st : St} (t : Nat) (row : Row) (ht : st.r t = some row) (hpr : row.pr = true) (hT : T t = false) : Norm T st ⟨frzS t row st.s, frzR t row st.r⟩ := by
  intro w0 O L n μ a w hL h
  exact ⟨μ, h.freeze t row ht hpr (hL ▸ hT)⟩
def rns (t t' : Nat) : Nat → Nat → Nat → PV := fun u lo n => bif Nat.beq u t then .slr t' lo n else .slr u lo n
def rnp (t t' : Nat) : Nat → Nat → Nat → PV := fun u i o => bif Nat.beq u t then .ptr t' i o else .ptr u i o
def PV.ren (t t' : Nat) (p : PV) : PV := p.map (rns t t') (rnp t t')
def Row.ren (t t' : Nat) (r : Row) : Row := bif r.pr then r else ⟨r.sz, r.pr, r.cs.map (PV.ren t t')⟩
def renS (t t' : Nat) (s : Slots) : Slots := fun k => (s k).map (PV.ren t t')
def renR (t t' : Nat) (r : Rows) : Rows := fun u => bif Nat.beq u t' then (r t).map (Row.ren t t') else bif Nat.beq u t then none else (r u).map (Row.ren t t')
theorem rns_one (t t' u lo n : Nat) : (rns t t' u lo n).one = true := by unfold rns; cases Nat.beq u t <;> rfl
theorem rnp_one (t t' u lo n : Nat) : (rnp t t' u lo n).one = true := by unfold rnp; cases Nat.beq u t <;> rfl
theorem PV.ren_one [Glob] {t t' : Nat} {p : PV} (h : p.one = true) : (p.ren t t').one = true := PV.map_one (rns_one t t') (rnp_one t t') p h
theorem PV.ren_cells [Glob] (t t' : Nat) (p : PV) : (p.ren t t').cells = p.cells.map (PV.ren t t') := PV.map_cells (rns_one t t') (rnp_one t t') p
theorem Row.ren_sz (t t' : Nat) (r : Row) : (r.ren t t').sz = r.sz := by unfold Row.ren; cases r.pr <;> rfl
theorem Row.ren_pr (t t' : Nat) (r : Row) : (r.ren t t').pr = r.pr := by unfold Row.ren; cases h : r.pr <;> simp [h]
theorem Row.ren_len (t t' : Nat) (r : Row) : (r.ren t t').cs.length = r.cs.length := by unfold Row.ren; cases r.pr <;> simp
theorem renR_new [Glob] {t t' : Nat} {R : Rows} {r : Row} (h : R t = some r) : renR t t' R t' = some (r.ren t t') := by unfold renR; rw [beq_true, cond_true, h]; rfl
theorem renR_of [Glob] {t t' u : Nat} {R : Rows} {r : Row} (hu : u ≠ t) (hu' : u ≠ t') (h : R u = some r) : renR t t' R u = some (r.ren t t') := by
  unfold renR
  rw [beq_false hu', cond_false, beq_false hu, cond_false, h]
  rfl
theorem renR_inv [Glob] {t t' u : Nat} {R : Rows} {r : Row} (h : renR t t' R u = some r) : ∃ r', r = r'.ren t t' ∧ ((u = t' ∧ R t = some r') ∨ (u ≠ t' ∧ u ≠ t ∧ R u = some r')) := by
  unfold renR at h
  by_cases hu : u = t'
  · rw [hu, beq_true, cond_true] at h
    obtain ⟨r', hr, rfl⟩ := Option.map_eq_some_iff.1 h
    exact ⟨r', rfl, .inl ⟨hu, hr⟩⟩
  · rw [beq_false hu, cond_false] at h
    by_cases hu' : u = t
    · rw [hu', beq_true] at h; cases h
    · rw [beq_false hu', cond_false] at h
      obtain ⟨r', hr, rfl⟩ := Option.map_eq_some_iff.1 h
      exact ⟨r', rfl, .inr ⟨hu, hu', hr⟩⟩
theorem StRel.rename [Glob] {w0 w : World} {O : Nat → Prop} {L : Lent} {n : Nat} {μ : Mu} {st : St} {a : Act} (h : StRel w0 O L n μ st a w) (t t' : Nat) (ht' : st.r t' = none) (hT : L.T t = false) (hty : tyOf t' = tyOf t) :
    StRel w0 O L n (upd μ t' (μ t)) ⟨renS t t' st.s, renR t t' st.r⟩ a w := by
  have hmu : ∀ {u : Nat} {r : Row}, renR t t' st.r u = some r → ∃ v r', r = r'.ren t t' ∧ st.r v = some r' ∧ upd μ t' (μ t) u = μ v ∧ ((u = t' ∧ v = t) ∨ (u ≠ t' ∧ u = v ∧ u ≠ t)) := by
    intro u r hr
    obtain ⟨r', e, ⟨h1, h2⟩ | ⟨h1, h2, h3⟩⟩ := renR_inv hr
    · exact ⟨t, r', e, h2, by rw [h1, upd_same], .inl ⟨h1, rfl⟩⟩
    · exact ⟨u, r', e, h3, upd_ne _ _ h1, .inr ⟨h1, rfl, h2⟩⟩
  have hO : ∀ b, Av O (upd μ t' (μ t)) (renR t t' st.r) b → Av O μ st.r b := by
    rintro b (h1 | ⟨u, r, l, h1, h2, h3⟩)
    · exact .inl h1
    · obtain ⟨v, r', _, g1, g2, _⟩ := hmu h1
      exact .inr ⟨v, r', l, g1, g2 ▸ h2, h3⟩
  have hnt : ∀ {u : Nat} {r : Row}, st.r u = some r → u ≠ t' := fun hr e => by rw [e, ht'] at hr; cases hr
  have hR : ∀ u r, st.r u = some r → ∃ v r', renR t t' st.r v = some r' ∧ r'.sz = r.sz ∧ r'.cs.length = r.cs.length ∧ upd μ t' (μ t) v = μ u ∧ v = (bif Nat.beq u t then t' else u) := by
    intro u r hr
    by_cases hu : u = t
    · subst hu; exact ⟨t', _, renR_new hr, Row.ren_sz _ _ _, Row.ren_len _ _ _, upd_same _ _ _, by rw [beq_true]; rfl⟩
    · exact ⟨u, _, renR_of hu (hnt hr) hr, Row.ren_sz _ _ _, Row.ren_len _ _ _, upd_ne _ _ (hnt hr), by rw [beq_false hu]; rfl⟩
  have key : ∀ {p : PV} {v : Value}, Rel w (Av O μ st.r) μ st.r p v → Rel w (Av O (upd μ t' (μ t)) (renR t t' st.r)) (upd μ t' (μ t)) (renR t t' st.r) (p.ren t t') v := by
    intro p v hp
    refine Rel.map (fs := rns t t') (fp := rnp t t') (fun _ _ _ => rfl) (fun b _ hb => hO b hb) (rns_one t t') (rnp_one t t') (fun u lo m v hv => ?_) (fun u i o v hv => ?_) hp
    · have hrn : rns t t' u lo m = .slr (bif Nat.beq u t then t' else u) lo m := by unfold rns; cases Nat.beq u t <;> rfl
      rw [hrn]
      cases hv with
      | base _ _ h => cases h
      | slr _ _ _ c r l hr hm hn hc hroom =>
        obtain ⟨v, r', h2, h3, h4, h5, h6⟩ := hR u r hr
        rw [← h6, ← h3]
        exact .slr v lo m c r' l h2 (h5.trans hm) (by omega) hc (by rw [h3]; exact hroom)
      | slr0 _ _ r A hr hn =>
        obtain ⟨v, r', h2, h3, h4, h5, h6⟩ := hR u r hr
        rw [← h6]
        exact .slr0 v lo r' A h2 (by omega)
    · have hrn : rnp t t' u i o = .ptr (bif Nat.beq u t then t' else u) i o := by unfold rnp; cases Nat.beq u t <;> rfl
      rw [hrn]
      cases hv with
      | base _ _ h => cases h
      | ptr _ _ _ r l hr hm hi ho =>
        obtain ⟨v, r', h2, h3, h4, h5, h6⟩ := hR u r hr
        rw [← h6, ← h3]
        exact .ptr v i o r' l h2 (h5.trans hm) (by omega) (by omega)
  refine ⟨h.dfr, h.size, h.fr, h.out, fun k p hk => ?_, fun u r hr => ?_, ?_, ?_, fun u hu => ?_⟩
  · obtain ⟨q, hq, rfl⟩ := Option.map_eq_some_iff.1 hk
    obtain ⟨v, hv, hrel⟩ := h.slot k q hq
    exact ⟨v, hv, key hrel⟩
  · obtain ⟨v, r', rfl, hr', hm, hcs⟩ := hmu hr
    have hrr := h.row v r' hr'
    refine ⟨by rw [Row.ren_sz]; exact hrr.sz, fun x hx => ?_, fun hn => ?_, fun l hl => ?_, fun k hk l hl => by
      rw [hm] at hl
      have hk' : tyOf v = some k := by
        rcases hcs with ⟨c1, c2⟩ | ⟨_, c2, _⟩
        · rw [c2, ← hty, ← c1]; exact hk
        · rw [← c2]; exact hk
      obtain ⟨e1, arr, fz, e2, e3⟩ := hrr.ty k hk' l hl
      exact ⟨e1, arr, fz, e2, by rw [Row.ren_pr, Row.ren_sz]; exact e3⟩⟩
    · rw [Row.ren_sz]
      unfold Row.ren at hx
      cases hp : r'.pr with
      | true => rw [hp, cond_true] at hx; exact hrr.el x hx
      | false =>
        rw [hp, cond_false] at hx
        obtain ⟨y, hy, rfl⟩ := List.mem_map.1 hx
        obtain ⟨h1, h2⟩ := hrr.el y hy
        rw [PV.ren_cells]
        refine ⟨by simpa using h1, fun p hp' => ?_⟩
        obtain ⟨q, hq, rfl⟩ := List.mem_map.1 hp'
        exact PV.ren_one (h2 q hq)
    · have := hrr.non (hm ▸ hn)
      have hl := Row.ren_len t t' r'
      rw [this] at hl
      exact List.eq_nil_of_length_eq_zero (by simpa using hl)
    · rw [hm] at hl
      obtain ⟨arr, ety, fz, h1, h2, h3, h4, h5⟩ := hrr.lie l hl
      refine ⟨arr, ety, fz, h1, h2, by rw [Row.ren_len, Row.ren_sz]; exact h3, h4, fun i x j p hi hj => ?_⟩
      rw [Row.ren_sz, Row.ren_pr]
      unfold Row.ren at hi
      cases hp : r'.pr with
      | true =>
        rw [hp, cond_true] at hi
        obtain ⟨v, hv, hc⟩ := h5 i x j p hi hj
        refine ⟨v, hv, ?_⟩
        rw [hp] at hc
        unfold CellRel at hc ⊢
        rw [if_pos rfl] at hc ⊢
        exact hc.frame (fun _ _ _ => rfl) (fun b _ hb => hO b hb)
      | false =>
        rw [hp, cond_false] at hi
        rw [List.getElem?_map] at hi
        obtain ⟨y, hy, rfl⟩ := Option.map_eq_some_iff.1 hi
        rw [PV.ren_cells, List.getElem?_map] at hj
        obtain ⟨q, hq, rfl⟩ := Option.map_eq_some_iff.1 hj
        obtain ⟨v, hv, hc⟩ := h5 i y j q hy hq
        refine ⟨v, hv, ?_⟩
        rw [hp] at hc
        unfold CellRel at hc ⊢
        rw [if_neg (by simp)] at hc ⊢
        exact key hc
  · intro u u' r r' l l' h1 h2 h3 h4 h5
    obtain ⟨v, s, _, g1, g2, g3⟩ := hmu h1
    obtain ⟨v', s', _, k1, k2, k3⟩ := hmu h2
    have := h.inj v v' s s' l l' g1 k1 (g2 ▸ h3) (k2 ▸ h4) h5
    rcases g3 with ⟨a1, a2⟩ | ⟨a1, a2, a3⟩
    · rcases k3 with ⟨b1, b2⟩ | ⟨b1, b2, b3⟩
      · rw [a1, b1]
      · exact absurd (b2.trans (this.symm.trans a2)) b3
    · rcases k3 with ⟨b1, b2⟩ | ⟨b1, b2, b3⟩
      · exact absurd (a2.trans (this.trans b2)) a3
      · rw [a2, b2, this]
  · intro u r l h1 h2
    obtain ⟨v, s, _, g1, g2, _⟩ := hmu h1
    exact h.own v s l g1 (g2 ▸ h2)
  · obtain ⟨h1, r, h2⟩ := h.keep u hu
    have hne : u ≠ t := fun e => by rw [e, hT] at hu; cases hu
    exact ⟨(upd_ne _ _ (hnt h2)).trans h1, _, renR_of hne (hnt h2) h2⟩
theorem rename [Glob] {st : St} (t t' : Nat) (ht' : st.r t' = none) (hT : T t = false) (hty : tyOf t' = tyOf t := by rfl) : Norm T st ⟨renS t t' st.s, renR t t' st.r⟩ := by
  intro w0 O L n μ a w hL h
  exact ⟨_, h.rename t t' ht' (hL ▸ hT) hty⟩
theorem ofL_some [Glob] {α : Type} : ∀ {l : List (Nat × α)} {k : Nat} {v : α}, (k, v) ∈ l → ∃ u, ofL l k = some u
  | [], k, v, h => by cases h
  | (k', v') :: r, k, v, h => by
    unfold ofL
    cases hk : Nat.beq k k' with
    | true => exact ⟨v', rfl⟩
    | false =>
      rcases List.mem_cons.1 h with e | e
      · cases e; rw [beq_true] at hk; cases hk
      · exact ofL_some e
theorem AllAt.mem [Glob] {α : Type} {f : Nat → Option α} : ∀ {l : List (Nat × α)}, AllAt f l → ∀ k v, (k, v) ∈ l → f k = some v
  | [], _, k, v, h => by cases h
  | (k', v') :: r, ⟨h1, h2⟩, k, v, h => by
    rcases List.mem_cons.1 h with e | e
    · cases e; exact h1
    · exact AllAt.mem h2 k v e
theorem AllAt.of [Glob] {α : Type} {f : Nat → Option α} : ∀ {l : List (Nat × α)}, (∀ k v, (k, v) ∈ l → f k = some v) → AllAt f l
  | [], _ => trivial
  | (k, v) :: r, h => ⟨h k v (by simp), AllAt.of fun k' v' h' => h k' v' (by simp [h'])⟩
theorem AllAt.own [Glob] {α : Type} {f : Nat → Option α} {l : List (Nat × α)} (h : AllAt f l) : AllAt (ofL l) l := by
  refine AllAt.of fun k v hm => ?_
  obtain ⟨u, hu⟩ := ofL_some hm
  rw [hu, ← h.get k u hu, h.mem k v hm]
theorem canon0 [Glob] {st : St} {l : List (Nat × PV)} {m : List (Nat × Row)} (hs : AllAt st.s l) (hr : AllAt st.r m) (h1 : PV.tks (fun t => (ofL m t).isSome) (l.map (·.2)) = true) (h2 : rowsTk (fun t => (ofL m t).isSome) (m.map (·.2)) = true) : Norm (fun _ => false) st ⟨ofL l, ofL m⟩ :=
  canonL (T := fun _ => false) l m hs hr h1 h2 nofun
theorem nlrow [Glob] (k t sz : Nat) (pr : Bool) {st : St} (hk : st.s k = some .nl) (ht : st.r t = none) (hz : Nat.ble 1 sz = true) : Norm T st ⟨upd st.s k (some (.slr t 0 0)), upd st.r t (some ⟨sz, pr, []⟩)⟩ := by
  intro w0 O L n μ a w hL h
  have h1 := h.empty t ht sz (Nat.le_of_ble_eq_true hz) pr
  refine ⟨_, h1.dfr, h1.size, h1.fr, h1.out, fun j p hj => ?_, h1.row, h1.inj, h1.own, h1.keep⟩
  by_cases hjk : j = k
  · subst hjk
    simp only [upd_same, Option.some.injEq] at hj
    subst hj
    obtain ⟨v, hv, hr⟩ := h.slot j .nl hk
    refine ⟨v, hv, ?_⟩
    cases hr with
    | base _ _ h => cases h with | nl => exact .slr0 t 0 ⟨sz, pr, []⟩ none (upd_same _ _ _) (Nat.le_refl _)
  · simp only [upd_ne _ _ hjk] at hj
    exact h1.slot j p hj
end
end Go.Vd
end
section
set_option linter.unusedVariables false
set_option linter.unusedSimpArgs false
namespace Go.Vd
open Go.RowKit
def byte (n : Int) : UInt8 := UInt8.ofNat (n % 256).toNat
theorem byte_toNat (n : Int) : ((byte n).toNat : Int) = n % 256 := by
  unfold byte
  rw [UInt8.toNat_ofNat']
  have h1 := Int.emod_nonneg n (show (256 : Int) ≠ 0 by decide)
  have h2 := Int.emod_lt_of_pos n (show (0 : Int) < 256 by decide)
  omega
theorem u8_wrap [Glob] (n : Int) : IntKind.u8.wrap n = ((byte n).toNat : Int) := by
  rw [byte_toNat]
  simp [IntKind.wrap, IntKind.bits, IntKind.signed]
theorem i64_wrap {n : Int} (h1 : -9223372036854775808 ≤ n) (h2 : n < 9223372036854775808) : IntKind.i64.wrap n = n := by
  change (if (true && decide (n % 18446744073709551616 ≥ 9223372036854775808)) = true then n % 18446744073709551616 - 18446744073709551616 else n % 18446744073709551616) = n
  simp only [Bool.true_and, decide_eq_true_eq]
  split <;> omega
theorem u8_ofInt (b : UInt8) : BitVec.ofInt 8 (b.toNat : Int) = b.toBitVec := by
  apply BitVec.eq_of_toNat_eq
  simp [BitVec.toNat_ofInt]
theorem u8_and [Glob] (a b : UInt8) : ibin .and .u8 (a.toNat : Int) (b.toNat : Int) = some (.int .u8 ((a &&& b).toNat : Int)) := by
  change some (PV.int .u8 (IntKind.u8.wrap ((BitVec.ofInt 8 (a.toNat : Int) &&& BitVec.ofInt 8 (b.toNat : Int)).toNat : Int))) = _
  rw [u8_ofInt, u8_ofInt]
  refine congrArg (fun x => some (PV.int .u8 x)) ?_
  change IntKind.u8.wrap (((a &&& b).toNat : Nat) : Int) = _
  rw [u8_wrap, byte_toNat]
  have := (a &&& b).toNat_lt
  omega
theorem u8_or [Glob] (a b : UInt8) : ibin .or .u8 (a.toNat : Int) (b.toNat : Int) = some (.int .u8 ((a ||| b).toNat : Int)) := by
  change some (PV.int .u8 (IntKind.u8.wrap ((BitVec.ofInt 8 (a.toNat : Int) ||| BitVec.ofInt 8 (b.toNat : Int)).toNat : Int))) = _
  rw [u8_ofInt, u8_ofInt]
  refine congrArg (fun x => some (PV.int .u8 x)) ?_
  change IntKind.u8.wrap (((a ||| b).toNat : Nat) : Int) = _
  rw [u8_wrap, byte_toNat]
  have := (a ||| b).toNat_lt
  omega
theorem vs {a b : List UInt8} (h : a = b) : some (PV.str a) = some (PV.str b) := by rw [h]
theorem bytesP_byte (l : List UInt8) : (bytesP l).map PV.byte = l := by
  induction l with
  | nil => rfl
  | cons x r ih =>
    simp only [bytesP, List.map_cons, PV.byte, List.cons.injEq] at ih ⊢
    refine ⟨?_, ih⟩
    simp
end Go.Vd
end
section
set_option linter.unusedVariables false
set_option linter.unusedSimpArgs false
namespace Go.Vd
open Go.RowKit
section
variable {P : Program} {T : Nat → Bool} {d : Option Nat} {st : St}
end
theorem binv_u8and [Glob] (a b : UInt8) : binv .and (.int .u8 (a.toNat : Int)) (.int .u8 (b.toNat : Int)) = some (.int .u8 ((a &&& b).toNat : Int)) := u8_and a b
theorem binv_u8or [Glob] (a b : UInt8) : binv .or (.int .u8 (a.toNat : Int)) (.int .u8 (b.toNat : Int)) = some (.int .u8 ((a ||| b).toNat : Int)) := u8_or a b
theorem noOwn {μ : Mu} {b : Nat} (h : Owned μ noRows b) : False := by
  obtain ⟨t, row, l, h1, _⟩ := h
  simp [noRows] at h1
theorem Sat.below [Glob] {P : Program} {f : FuncId} {ps : List PV} (h : Sat P f noRows ps (.bool true) noRows) {W : World} {vs : List Value} (hargs : CellsRel W (fun _ => False) (fun _ => none) noRows ps vs) (hok : Glob.ok W) :
    Calls P f vs.toArray W fun e W' => e = .returned (.bool true) ∧ Below W.heap.size W W' := by
  have hav : ∀ (μ : Mu) b, Av (fun _ => False) μ noRows b → False := fun μ b hb => hb.elim id noOwn
  refine (h (fun _ => False) (fun _ => none) W vs ⟨fun b hb => hb.elim, hok⟩ ⟨fun t row ht => by simp [noRows] at ht, fun t t' row row' l l' ht => by simp [noRows] at ht, fun t row l ht => by simp [noRows] at ht⟩ ⟨hargs.len, fun j p v hj hv => ?_⟩).mono ?_
  · exact (hargs.rel j p v hj hv).mono (fun _ => true) (fun _ _ _ => rfl) (fun b _ hb => (hav _ b hb).elim) (fun t row _ ht => by simp [noRows] at ht) (PV.tk_true _)
  · rintro e w' ⟨v, μ', rfl, hfr, _, _, _, hr⟩
    have := hr.bool_inv
    subst this
    exact ⟨rfl, hfr.os, hfr.tape, hfr.output, hfr.size, fun b hb => hfr.block b hb noOwn⟩
theorem cells_nil {W : World} : CellsRel W (fun _ => False) (fun _ => none) noRows [] [] := ⟨rfl, fun j p v hj => by simp at hj⟩
theorem cells_cons {W : World} {p : PV} {v : Value} {ps : List PV} {vs : List Value} (h : Rel0 W (fun _ => False) p v) (k : CellsRel W (fun _ => False) (fun _ => none) noRows ps vs) : CellsRel W (fun _ => False) (fun _ => none) noRows (p :: ps) (v :: vs) := by
  refine ⟨by simp [k.len], fun j q u hj hu => ?_⟩
  cases j with
  | zero => simp at hj hu; subst hj; subst hu; exact .base _ _ h
  | succ j => exact k.rel j q u (by simpa using hj) (by simpa using hu)
end Go.Vd
end
section
set_option linter.unusedVariables false
set_option linter.unusedSimpArgs false
namespace Go.Vd
open Go.RowKit
theorem rel_str {w : World} {O : Nat → Prop} (s : ByteArray) : Rel0 w O (.str s.data.toList) (.string s) := by
  have h := Rel0.str (w := w) (O := O) s.data.toList
  rwa [ba_mk] at h
end Go.Vd
end
section
set_option linter.unusedVariables false
set_option linter.unusedSimpArgs false
namespace Go.Vd
open Go.RowKit
def PV.lit : PV → Option Value
  | .int k n => some (.int k n)
  | .bool b => some (.bool b)
  | .str s => some (.string ⟨s.toArray⟩)
  | _ => none
def lits : List PV → Option (List Value)
  | [] => some []
  | p :: r => match p.lit, lits r with
    | some v, some q => some (v :: q)
    | _, _ => none
theorem lit_rel {w : World} {O : Nat → Prop} {p : PV} {v : Value} (h : p.lit = some v) : Rel0 w O p v := by
  cases p <;> simp only [PV.lit] at h <;> first | (cases h; done) | (cases h; first | exact .int _ _ | exact .bool _ | exact .str _)
theorem lit_inv [Glob] {w : World} {O : Nat → Prop} {μ : Mu} {R : Vd.Rows} {p : PV} {u v : Value} (h : p.lit = some v) (hr : Rel w O μ R p u) : u = v := by
  cases p <;> simp only [PV.lit] at h <;> first | (cases h; done) | (cases h; first | exact hr.int_inv | exact hr.bool_inv | exact hr.str_inv)
theorem lits_inv [Glob] {w : World} {O : Nat → Prop} {μ : Mu} {R : Vd.Rows} : ∀ {ps : List PV} {us vs : List Value}, lits ps = some vs → CellsRel w O μ R ps us → us = vs
  | [], us, vs, h, hr => by
    simp only [lits, Option.some.injEq] at h
    subst h
    have := hr.len
    exact List.eq_nil_of_length_eq_zero (by simpa using this)
  | p :: r, us, vs, h, hr => by
    simp only [lits] at h
    split at h
    · rename_i v q hv hq
      cases h
      cases us with
      | nil => have := hr.len; simp at this
      | cons u us =>
        have h1 : u = v := lit_inv hv (hr.rel 0 p u rfl rfl)
        have h2 : us = q := lits_inv hq ⟨by have := hr.len; simpa using this, fun j p' v' hj hv' => hr.rel (j + 1) p' v' (by simpa using hj) (by simpa using hv')⟩
        rw [h1, h2]
    · cases h
theorem sat_lib [Glob] {P : Program} {f : FuncId} {ps : List PV} {vs : List Value} {res : PV} {v : Value} (hps : lits ps = some vs) (hres : ∀ (w : World) (O : Nat → Prop), Rel0 w O res v) (h : ∀ w, Calls P f vs.toArray w fun e w' => e = .returned v ∧ Below w.heap.size w w') : Sat P f noRows ps res noRows := by
  intro O μ w us hO hin hargs
  have e := lits_inv hps hargs
  subst e
  refine (h w).mono ?_
  rintro e w' ⟨rfl, hb⟩
  refine ⟨v, μ, rfl, ⟨hb.os, hb.tape, hb.output, hb.size, fun b hlt _ => hb.block b hlt⟩, ⟨fun t row ht => by simp [noRows] at ht, fun t t' row row' l l' ht => by simp [noRows] at ht, fun t row l ht => by simp [noRows] at ht⟩,
    fun t row ht => by simp [noRows] at ht, fun t row l ht => by simp [noRows] at ht, .base _ _ (hres _ _)⟩
theorem sat_lib1 [Glob] {P : Program} {f : FuncId} {ps : List PV} {vs : List Value} {res : PV} {v : Value} (hps : lits ps = some vs) (hres : res.lit = some v) (h : ∀ w, Calls P f vs.toArray w fun e w' => e = .returned v ∧ w' = w) : Sat P f noRows ps res noRows :=
  sat_lib hps (fun w O => lit_rel hres) fun w => (h w).mono fun e w' ⟨h1, h2⟩ => ⟨h1, by rw [h2]; exact .refl _ _⟩
end Go.Vd
end
section
set_option linter.unusedVariables false
set_option linter.unusedSimpArgs false
namespace Go.Vd
open Go.RowKit
section
variable {P : Program} {T : Nat → Bool}
end
end Go.Vd
end
section
set_option linter.unusedVariables false
set_option linter.unusedSimpArgs false
namespace Go.Vd
open Go.RowKit
def idxL {α : Type} (l : List α) (i : Int) : Option α := if 0 ≤ i then l[i.toNat]? else none
def chkI (i : Int) (n : Nat) : Option Nat := if 0 ≤ i ∧ i < (n : Int) then some i.toNat else none
def cutL {α : Type} (l : List α) (lo hi : Int) : Option (List α) := if 0 ≤ lo ∧ lo ≤ hi ∧ hi ≤ (l.length : Int) then some ((l.take hi.toNat).drop lo.toNat) else none
def takeL {α : Type} (l : List α) (hi : Int) : Option (List α) := if 0 ≤ hi ∧ hi ≤ (l.length : Int) then some (l.take hi.toNat) else none
def dropL {α : Type} (l : List α) (lo : Int) : Option (List α) := if 0 ≤ lo ∧ lo ≤ (l.length : Int) then some (l.drop lo.toNat) else none
def catS (a b : List UInt8) : Option (List UInt8) := if a.length + b.length ≤ 9223372036854775807 then some (a ++ b) else none
def appL {α : Type} (bytes : Nat) (a b : List α) : Option (List α) := if (a.length + b.length) * bytes ≤ 140737488355328 then some (a ++ b) else none
def nz (b : Int) : Option Unit := if b = 0 then none else some ()
def w64 (n : Int) : Int := IntKind.i64.wrap n
def mx (a b : Int) : Int := if b > a then b else a
def mn (a b : Int) : Int := if b < a then b else a
def shlB (a : UInt8) (n : Int) : UInt8 := byte (a.toNat * 2 ^ min n.toNat 8)
def shrB (a : UInt8) (n : Int) : UInt8 := byte ((a.toNat : Int).fdiv (2 ^ min n.toNat 8))
def eb (b : UInt8) : PV := .int .u8 (b.toNat : Int)
def es {α : Type} (sz : Nat) (f : α → PV) (l : List α) : PV := .sl sz (l.map f)
theorem bindS {α β : Type} {x : Option α} {f : α → Option β} {r : β} (h : Option.bind x f = some r) : ∃ a, x = some a ∧ f a = some r := Option.bind_eq_some_iff.1 h
theorem bifS {α : Type} {c : Bool} {x y : Option α} {r : α} (h : (bif c then x else y) = some r) : (c = true ∧ x = some r) ∨ (c = false ∧ y = some r) := by
  cases c
  · exact .inr ⟨rfl, h⟩
  · exact .inl ⟨rfl, h⟩
theorem someS {α : Type} {a r : α} (h : some a = some r) : a = r := Option.some.inj h
section
variable {P : Program} {T : Nat → Bool}
def WX [Glob] (P : Program) (T : Nat → Bool) (c : IC) (st : St) (Q : Xt → St → Prop) : Prop := ∃ e st', Ex P T c st e st' ∧ Q e st'
theorem xseq [Glob] {a b : IC} {st : St} {Q : Xt → St → Prop} (h : WX P T a st (After (fun s => WX P T b s Q) Q)) : WX P T (.seq a b) st Q := by
  obtain ⟨e, s, h1, h2⟩ := h
  cases e with
  | normal => obtain ⟨e2, s2, h3, h4⟩ := h2; exact ⟨e2, s2, .seq h1 h3, h4⟩
  | exit i => exact ⟨_, _, .seqx h1 (by simp), h2⟩
  | ret => exact ⟨_, _, .seqx h1 (by simp), h2⟩
theorem xreg [Glob] {ios : List Ins} {st : St} {Q : Xt → St → Prop} (h : Wr P T ios st (fun s => Q .normal s)) : WX P T (.reg ios) st Q := by
  obtain ⟨s, h1, h2⟩ := Wr.ex h
  exact ⟨_, _, .reg h1, h2⟩
theorem xregd [Glob] {m : Nat} {ios : List Ins} {st : St} {Q : Xt → St → Prop} (h : Wr0 P (ios.take m) st (fun fin => Wr P T (ios.drop m) fin (fun s => Q .normal s))) : WX P T (.regd m ios) st Q := by
  obtain ⟨fin, h1, h2⟩ := Wr0.steps h
  obtain ⟨s, h3, h4⟩ := Wr.ex h2
  exact ⟨_, _, .regd h1 h3, h4⟩
theorem xcT [Glob] {c : Opd} {a b : IC} {st : St} {Q : Xt → St → Prop} {t : Bool} (hc : c.ev st.s = some (.bool t)) (ht : t = true) (h : WX P T a st Q) : WX P T (.cond c a b) st Q := by
  obtain ⟨e, s, h1, h2⟩ := h
  subst ht
  exact ⟨e, s, .cond true hc h1, h2⟩
theorem xcF [Glob] {c : Opd} {a b : IC} {st : St} {Q : Xt → St → Prop} {t : Bool} (hc : c.ev st.s = some (.bool t)) (ht : t = false) (h : WX P T b st Q) : WX P T (.cond c a b) st Q := by
  obtain ⟨e, s, h1, h2⟩ := h
  subst ht
  exact ⟨e, s, .cond false hc h1, h2⟩
theorem xblk [Glob] {id : Nat} {b : IC} {st : St} {Q : Xt → St → Prop} (h : WX P T b st (fun e s => Q (e.blk id) s)) : WX P T (.block id b) st Q := by
  obtain ⟨e, s, h1, h2⟩ := h
  exact ⟨_, _, .block h1, h2⟩
theorem xexit [Glob] {id : Nat} {st : St} {Q : Xt → St → Prop} (h : Q (.exit id) st) : WX P T (.exit id) st Q := ⟨_, _, .exit, h⟩
theorem xret [Glob] {st : St} {Q : Xt → St → Prop} (h : Q .ret st) : WX P T .ret st Q := ⟨_, _, .ret, h⟩
theorem xskip [Glob] {st : St} {Q : Xt → St → Prop} (h : Q .normal st) : WX P T .skip st Q := ⟨_, _, .skip, h⟩
theorem xnorm [Glob] {c : IC} {st st1 : St} {Q : Xt → St → Prop} (hn : Norm T st st1) (h : WX P T c st1 Q) : WX P T c st Q := by
  obtain ⟨e, s, h1, h2⟩ := h
  exact ⟨e, s, .norm hn h1, h2⟩
theorem xmono [Glob] {c : IC} {st : St} {Q Q' : Xt → St → Prop} (h : WX P T c st Q) (k : ∀ e s, Q e s → Q' e s) : WX P T c st Q' := by
  obtain ⟨e, s, h1, h2⟩ := h
  exact ⟨e, s, h1, k e s h2⟩
theorem xexitn [Glob] {id : Nat} {st st1 : St} {Q : Xt → St → Prop} (hn : Norm T st st1) (h : Q (.exit id) st1) : WX P T (.exit id) st Q := ⟨_, _, .normr .exit hn, h⟩
theorem xretn [Glob] {st st1 : St} {Q : Xt → St → Prop} (hn : Norm T st st1) (h : Q .ret st1) : WX P T .ret st Q := ⟨_, _, .normr .ret hn, h⟩
theorem xjoin [Glob] {α : Type} (S : α → St) (p : α → Prop) {a b : IC} {st : St} {Q : Xt → St → Prop} (hb : ∀ x, p x → WX P T b (S x) Q) (ha : WX P T a st (After (fun s => ∃ x, Norm T s (S x) ∧ p x) Q)) : WX P T (.seq a b) st Q := by
  refine xseq (xmono ha ?_)
  intro e s h
  cases e with
  | normal => obtain ⟨x, hn, hp⟩ := h; exact xnorm hn (hb x hp)
  | exit i => exact h
  | ret => exact h
theorem xloop [Glob] {α β : Type} {b : IC} (S : α → St) (Qx : β → Xt → St → Prop) (L : Nat → α → Option β) (B : (α → Option β) → α → Option β) (h0 : ∀ x, L 0 x = none) (hs : ∀ n x, L (n + 1) x = B (L n) x)
    (hb : ∀ (rec : α → Option β) (x : α) (y : β), B rec x = some y → WX P T b (S x) (After (fun s => ∃ x', Norm T s (S x') ∧ rec x' = some y) (Qx y))) :
    ∀ (n : Nat) (x : α) (y : β), L n x = some y → WX P T (.loop b) (S x) (Qx y) := by
  intro n
  induction n with
  | zero => intro x y h; rw [h0] at h; cases h
  | succ n ih =>
    intro x y h
    rw [hs] at h
    obtain ⟨e, s, h1, h2⟩ := hb _ x y h
    cases e with
    | normal =>
      obtain ⟨x', hn, hr⟩ := h2
      obtain ⟨e2, s2, h3, h4⟩ := ih x' y hr
      exact ⟨e2, s2, .loop h1 (.norm hn h3), h4⟩
    | exit i => exact ⟨_, _, .loopx h1 (by simp), h2⟩
    | ret => exact ⟨_, _, .loopx h1 (by simp), h2⟩
theorem xloopU [Glob] {b : IC} {st st1 : St} {Q Q' : Xt → St → Prop} (hn : Norm T st st1) (h : WX P T (.loop b) st1 Q) (k : ∀ e s, Q e s → Q' e s) : WX P T (.loop b) st Q' := xnorm hn (xmono h k)
theorem xsat [Glob] (hm : P.follows .mixedOrders = true) {f : FuncId} {fn : Func} {n : Nat} {code : IC} {rv : List IRes} (hf : P.funcs[f]? = some fn) (hc : cfunc P fn = some ⟨n, code, rv⟩) {ps rs : List PV} {res : PV} (hr : resOf rs = res) (hlen : Nat.ble ps.length n = true)
    (h : WX P (fun _ => false) code ⟨s0 n ps, noRows⟩ fun e st' => (∀ id, e ≠ .exit id) ∧ gets st' rv = some rs ∧ PV.tks (fun _ => false) rs = true) : Sat P f noRows ps res noRows := by
  obtain ⟨e, s, h1, h2, h3, h4⟩ := h
  subst hr
  exact sat_fn hm hf hc (Nat.le_of_ble_eq_true hlen) h1 h2 h3 h4 (fun t row h => by simp [noRows] at h) (fun t row h => by simp [noRows] at h)
theorem wdN [Glob] {d : Option Nat} {op : IOp} {g : Option (Nat × Bool)} {r : List Ins} {st : St} {K : St → Prop} {p : PV} {N : Rows} (hg : gok st.s g = some true) (h : PurS P op st.s st.r p N) (hn : ∀ t row, N t = some row → st.r t = none)
    (k : Wr0 P r (St.put ⟨st.s, mrg N st.r⟩ d p) K) : Wr0 P (⟨d, op, g⟩ :: r) st K := .inl ⟨hg, p, N, h, hn, k⟩
theorem wdp [Glob] {d : Option Nat} {op : IOp} {g : Option (Nat × Bool)} {r : List Ins} {st : St} {K : St → Prop} {p : PV} (hg : gok st.s g = some true) (h : pop st.s st.r op = some p) (k : Wr0 P r (st.put d p) K) : Wr0 P (⟨d, op, g⟩ :: r) st K := by
  refine wdN hg (.pop h) no_fresh ?_
  rw [mrg_no]
  exact k
def Sub (p q : PV) : Prop := ∀ (w : World) (O : Nat → Prop) (μ : Mu) (R : Rows) (v : Value), Rel w O μ R p v → Rel w O μ R q v
theorem sub_rfl {p : PV} : Sub p p := fun _ _ _ _ _ h => h
theorem sub_nl (sz : Nat) : Sub .nl (.sl sz []) := by
  intro w O μ R v h
  cases h with | base _ _ h => cases h with | nl => exact .base _ _ (.sl0 sz none 0)
inductive Subs : List PV → List PV → Prop
  | nil : Subs [] []
  | cons {p q : PV} {l m : List PV} (h : Sub p q) (k : Subs l m) : Subs (p :: l) (q :: m)
theorem Subs.len {l m : List PV} (h : Subs l m) : l.length = m.length := by
  induction h with
  | nil => rfl
  | cons _ _ ih => simp [ih]
theorem Subs.get {l m : List PV} (h : Subs l m) : ∀ (j : Nat) (q : PV), m[j]? = some q → ∃ p, l[j]? = some p ∧ Sub p q := by
  induction h with
  | nil => intro j q hj; simp at hj
  | cons h k ih =>
    intro j q hj
    cases j with
    | zero => simp at hj; subst hj; exact ⟨_, rfl, h⟩
    | succ j => simpa using ih j q (by simpa using hj)
theorem sub_agg [Glob] {l m : List PV} (h : Subs l m) (hm : m.all PV.one = true) : Sub (.agg l) (.agg m) := by
  intro w O μ R v hv
  obtain ⟨vs, rfl, hl, _, hr⟩ := hv.agg_inv
  refine .agg m vs (hl.trans h.len) (fun p hp => List.all_eq_true.1 hm p hp) fun j q u hj hu => ?_
  obtain ⟨p, hp, hs⟩ := h.get j q hj
  exact hs _ _ _ _ _ (hr j p u hp hu)
theorem nsub [Glob] (k : Nat) {p q : PV} {st : St} (hs : Sub p q) (hk : st.s k = some p) : Norm T st ⟨upd st.s k (some q), st.r⟩ := by
  intro w0 O L n μ a w hL h
  refine ⟨μ, h.dfr, h.size, h.fr, h.out, fun j r hj => ?_, h.row, h.inj, h.own, h.keep⟩
  by_cases hjk : j = k
  · subst hjk
    simp only [upd_same, Option.some.injEq] at hj
    subst hj
    obtain ⟨v, hv, hr⟩ := h.slot j p hk
    exact ⟨v, hv, hs _ _ _ _ _ hr⟩
  · simp only [upd_ne _ _ hjk] at hj
    exact h.slot j r hj
theorem Sat.subs [Glob] {P : Program} {f : FuncId} {Ri Ro : Rows} {ps qs : List PV} {res : PV} (h : Sat P f Ri qs res Ro) (hs : Subs ps qs) : Sat P f Ri ps res Ro := by
  intro O μ w vs hO hin hargs
  refine h O μ w vs hO hin ⟨hargs.len.trans hs.len, fun j q u hj hu => ?_⟩
  obtain ⟨p, hp, hsub⟩ := hs.get j q hj
  exact hsub _ _ _ _ _ (hargs.rel j p u hp hu)
end
end Go.Vd
end
section
set_option linter.unusedVariables false
set_option linter.unusedSimpArgs false
namespace Go.Vd
open Go.RowKit
section
variable {s : Slots} {R : Rows} {α : Type}
theorem idxL_inv {l : List α} {i : Int} {x : α} (h : idxL l i = some x) : 0 ≤ i ∧ l[i.toNat]? = some x := by
  unfold idxL at h
  split at h
  · exact ⟨by assumption, h⟩
  · cases h
theorem cutL_inv {l r : List α} {lo hi : Int} (h : cutL l lo hi = some r) : 0 ≤ lo ∧ lo ≤ hi ∧ hi ≤ (l.length : Int) ∧ (l.take hi.toNat).drop lo.toNat = r := by
  unfold cutL at h
  split at h
  · rename_i h1
    exact ⟨h1.1, h1.2.1, h1.2.2, by simpa using h⟩
  · cases h
theorem takeL_inv {l r : List α} {hi : Int} (h : takeL l hi = some r) : 0 ≤ hi ∧ hi ≤ (l.length : Int) ∧ l.take hi.toNat = r := by
  unfold takeL at h
  split at h
  · rename_i h1
    exact ⟨h1.1, h1.2, by simpa using h⟩
  · cases h
theorem dropL_inv {l r : List α} {lo : Int} (h : dropL l lo = some r) : 0 ≤ lo ∧ lo ≤ (l.length : Int) ∧ l.drop lo.toNat = r := by
  unfold dropL at h
  split at h
  · rename_i h1
    exact ⟨h1.1, h1.2, by simpa using h⟩
  · cases h
theorem chkI_inv {i : Int} {n k : Nat} (h : chkI i n = some k) : 0 ≤ i ∧ k < n ∧ i.toNat = k := by
  unfold chkI at h
  split at h
  · rename_i h1
    have : i.toNat = k := by simpa using h
    exact ⟨h1.1, by omega, this⟩
  · cases h
theorem catS_inv {a b r : List UInt8} (h : catS a b = some r) : a.length + b.length ≤ 9223372036854775807 ∧ a ++ b = r := by
  unfold catS at h
  split at h
  · exact ⟨by assumption, by simpa using h⟩
  · cases h
theorem appL_inv {n : Nat} {a b r : List α} (h : appL n a b = some r) : (a.length + b.length) * n ≤ 140737488355328 ∧ a ++ b = r := by
  unfold appL at h
  split at h
  · exact ⟨by assumption, by simpa using h⟩
  · cases h
theorem nz_inv {b : Int} {u : Unit} (h : nz b = some u) : b ≠ 0 := by
  intro e
  unfold nz at h
  rw [if_pos e] at h
  cases h
theorem p_idx [Glob] {x y : Opd} {l : List UInt8} {k : IntKind} {i : Int} {b : UInt8} (h : idxL l i = some b) (hx : x.ev s = some (.str l)) (hy : y.ev s = some (.int k i)) : pop s R (.idxs x y) = some (eb b) := by
  obtain ⟨h0, h1⟩ := idxL_inv h
  simp only [pop, hx, hy, opt2, idxsv]
  rw [if_pos h0, h1]
  rfl
theorem p_cut [Glob] {x a b : Opd} {l r : List UInt8} {k k' : IntKind} {lo hi : Int} (h : cutL l lo hi = some r) (hx : x.ev s = some (.str l)) (ha : a.ev s = some (.int k lo)) (hb : b.ev s = some (.int k' hi)) : pop s R (.slcs x (some a) (some b)) = some (.str r) := by
  obtain ⟨h0, h1, h2, rfl⟩ := cutL_inv h
  simp only [pop, evO, hx, ha, hb, Option.map_some, Option.bind_some, slcsv, bounds]
  rw [if_pos ⟨h0, h1, h2⟩]
  rfl
theorem p_take [Glob] {x b : Opd} {l r : List UInt8} {k : IntKind} {hi : Int} (h : takeL l hi = some r) (hx : x.ev s = some (.str l)) (hb : b.ev s = some (.int k hi)) : pop s R (.slcs x none (some b)) = some (.str r) := by
  obtain ⟨h1, h2, rfl⟩ := takeL_inv h
  simp only [pop, evO, hx, hb, Option.map_some, Option.bind_some, slcsv, bounds]
  rw [if_pos ⟨h1, h2⟩]
  rfl
theorem p_drop [Glob] {x a : Opd} {l r : List UInt8} {k : IntKind} {lo : Int} (h : dropL l lo = some r) (hx : x.ev s = some (.str l)) (ha : a.ev s = some (.int k lo)) : pop s R (.slcs x (some a) none) = some (.str r) := by
  obtain ⟨h1, h2, rfl⟩ := dropL_inv h
  simp only [pop, evO, hx, ha, Option.map_some, Option.bind_some, slcsv, bounds]
  rw [if_pos ⟨h1, h2⟩]
  simp
theorem p_cat [Glob] {x y : Opd} {a b r : List UInt8} (h : catS a b = some r) (hx : x.ev s = some (.str a)) (hy : y.ev s = some (.str b)) : pop s R (.bin .add x y) = some (.str r) := by
  obtain ⟨h1, rfl⟩ := catS_inv h
  simp only [pop, hx, hy, opt2, binv, isShift, sbin]
  rw [if_pos h1]
  simp
theorem p_lens {x : Opd} {sz : Nat} {f : α → PV} {l : List α} (hx : x.ev s = some (.sl sz (l.map f))) : pop s R (.len false x) = some (.int .i64 (l.length : Int)) := by
  simp only [pop, hx, Option.bind_some, lenv, cond_false, lenlv, List.length_map]
theorem p_ixs [Glob] {x y : Opd} {sz : Nat} {f : α → PV} {l : List α} {k : IntKind} {i : Int} {e : α} {cs : List PV} (h : idxL l i = some e) (hx : x.ev s = some (.sl sz (l.map f))) (hy : y.ev s = some (.int k i)) (hc : (f e).cells = cs) : pop s R (.ixp sz x y) = some (.ep cs) := by
  obtain ⟨h0, h1⟩ := idxL_inv h
  simp only [pop, hx, hy, opt2, ixpv]
  rw [if_pos ⟨trivial, h0⟩, List.getElem?_map, h1]
  simp [hc]
theorem p_takel [Glob] {x b : Opd} {sz : Nat} {f : α → PV} {l r : List α} {k' : IntKind} {hi : Int} (h : takeL l hi = some r) (hx : x.ev s = some (.sl sz (l.map f))) (hb : b.ev s = some (.int k' hi)) : pop s R (.slcl sz x none (some b)) = some (.sl sz (r.map f)) := by
  obtain ⟨h1, h2, rfl⟩ := takeL_inv h
  simp only [pop, evO, hx, hb, Option.map_some, Option.bind_some, slclv, bounds]
  rw [if_pos trivial, if_pos ⟨h1, by simpa using h2⟩]
  simp [List.map_take, List.map_drop]
theorem all_u8 (l : List UInt8) : (l.map eb).all PV.isU8 = true := by simp [eb, PV.isU8]
theorem map_byte [Glob] (l : List UInt8) : (l.map eb).map PV.byte = l := bytesP_byte l
theorem full_row {f : α → PV} {l : List α} : ((l.map f).drop 0).take l.length = l.map f := by
  rw [List.drop_zero]
  exact List.take_of_length_le (by simp)
theorem take_row [Glob] {f : α → PV} {l r : List α} {hi : Int} (h : takeL l hi = some r) : ((l.map f).drop 0).take hi.toNat = r.map f := by
  obtain ⟨_, _, rfl⟩ := takeL_inv h
  rw [List.drop_zero, List.map_take]
theorem p_ixr [Glob] {x y : Opd} {sz n t : Nat} {k : IntKind} {i : Int} {j : Nat} {row : Row} (h : chkI i n = some j) (hx : x.ev s = some (.slr t 0 n)) (hy : y.ev s = some (.int k i)) (hr : R t = some row) (hs : row.sz = sz) : pop s R (.ixp sz x y) = some (.ptr t j 0) := by
  obtain ⟨h0, h1, rfl⟩ := chkI_inv h
  simp only [pop, hx, hy, opt2, ixpv, hr]
  rw [if_pos ⟨hs, h0, by omega⟩, Nat.zero_add]
theorem p_ldr {x : Opd} {sz sz' t o j : Nat} {ag : Bool} {f : α → PV} {l : List α} {e : α} {pr : Bool} {v : PV} (h : l[j]? = some e) (hx : x.ev s = some (.ptr t j o)) (hr : R t = some ⟨sz', pr, l.map f⟩)
    (hv : (if ag = true ∧ (f e).cells.length < o + sz then none else partv o sz ag (f e).cells) = some v) : pop s R (.load sz ag x) = some v := by
  simp only [pop, hx, Option.bind_some, loadv, hr]
  rw [List.getElem?_map, h]
  exact hv
theorem p_taker [Glob] {x b : Opd} {sz n t : Nat} {l r : List α} {k' : IntKind} {hi : Int} {row : Row} (h : takeL l hi = some r) (hx : x.ev s = some (.slr t 0 n)) (hn : n = l.length) (hb : b.ev s = some (.int k' hi)) (hr : R t = some row) (hs : row.sz = sz) : pop s R (.slcl sz x none (some b)) = some (.slr t 0 hi.toNat) := by
  obtain ⟨h1, h2, rfl⟩ := takeL_inv h
  simp only [pop, evO, hx, hb, Option.map_some, Option.bind_some, slclv, bounds, hr]
  rw [if_pos hs, if_pos ⟨h1, by omega⟩]
  simp
theorem p_cvbr [Glob] {x : Opd} {t lo n : Nat} {l r : List UInt8} (hx : x.ev s = some (.slr t lo n)) (hr : R t = some ⟨1, true, l.map eb⟩) (hl : ((l.map eb).drop lo).take n = r.map eb) : pop s R (.cvb x) = some (.str r) := by
  simp only [pop, hx, Option.bind_some, cvbv, hr]
  rw [hl, if_pos ⟨trivial, trivial, all_u8 r⟩, map_byte]
theorem el_row {sz t lo n : Nat} {cs : List PV} {ys : List PV} (hr : R t = some ⟨sz, true, cs⟩) (h : (cs.drop lo).take n = ys) : elemsv R sz (.slr t lo n) = some ys := by
  simp only [elemsv, hr]
  rw [if_pos ⟨trivial, trivial⟩, h]
theorem p_u8add [Glob] {x y : Opd} {a b : UInt8} (hx : x.ev s = some (eb a)) (hy : y.ev s = some (eb b)) : pop s R (.bin .add x y) = some (eb (a + b)) := by
  simp only [pop, hx, hy, opt2, eb, binv, isShift, ibin]
  simp only [Bool.false_eq_true, if_false, if_true, Option.some.injEq, PV.int.injEq, true_and]
  rw [u8_wrap]
  congr 1
  apply UInt8.toNat_inj.2
  apply UInt8.toNat_inj.1
  have h := byte_toNat ((a.toNat : Int) + b.toNat)
  rw [UInt8.toNat_add]
  omega
theorem p_u8and [Glob] {x y : Opd} {a b : UInt8} (hx : x.ev s = some (eb a)) (hy : y.ev s = some (eb b)) : pop s R (.bin .and x y) = some (eb (a &&& b)) := by
  simp only [pop, hx, hy, opt2, eb, binv_u8and]
theorem p_u8or [Glob] {x y : Opd} {a b : UInt8} (hx : x.ev s = some (eb a)) (hy : y.ev s = some (eb b)) : pop s R (.bin .or x y) = some (eb (a ||| b)) := by
  simp only [pop, hx, hy, opt2, eb, binv_u8or]
theorem p_u8shl [Glob] {x y : Opd} {a : UInt8} {k : IntKind} {n : Int} (h : 0 ≤ n) (hx : x.ev s = some (eb a)) (hy : y.ev s = some (.int k n)) : pop s R (.bin .shl x y) = some (eb (shlB a n)) := by
  simp only [pop, hx, hy, opt2, eb, binv, isShift, ishift]
  simp only [if_true]
  rw [if_neg (by omega)]
  simp only [Option.some.injEq, PV.int.injEq, true_and]
  rw [u8_wrap]
  rfl
theorem p_u8shr [Glob] {x y : Opd} {a : UInt8} {k : IntKind} {n : Int} (h : 0 ≤ n) (hx : x.ev s = some (eb a)) (hy : y.ev s = some (.int k n)) : pop s R (.bin .shr x y) = some (eb (shrB a n)) := by
  have h1 := a.toNat_lt
  simp only [pop, hx, hy, opt2, eb, binv, isShift, ishift]
  simp only [if_true]
  rw [if_neg (by omega)]
  simp only [Option.some.injEq, PV.int.injEq, true_and, shrB]
  rw [byte_toNat]
  have h2 : (a.toNat : Int).fdiv (2 ^ min n.toNat IntKind.u8.bits) = ((a.toNat / 2 ^ min n.toNat 8 : Nat) : Int) := by
    rw [Int.fdiv_eq_ediv_of_nonneg _ (Int.pow_nonneg (by omega))]
    simp [IntKind.bits]
  have h3 : a.toNat / 2 ^ min n.toNat 8 ≤ a.toNat := Nat.div_le_self _ _
  have h5 : (a.toNat : Int).fdiv (2 ^ min n.toNat 8) = ((a.toNat / 2 ^ min n.toNat 8 : Nat) : Int) := h2
  rw [h2, h5]
  have h6 : ((a.toNat / 2 ^ min n.toNat 8 : Nat) : Int) ≤ (a.toNat : Int) := by exact_mod_cast h3
  exact (Int.emod_eq_of_lt (Int.natCast_nonneg _) (by omega)).symm
theorem p_cvu8 [Glob] {x : Opd} {k : IntKind} {n : Int} (hx : x.ev s = some (.int k n)) : pop s R (.cvi .u8 x) = some (eb (byte n)) := by
  simp only [pop, hx, Option.bind_some, cviv, eb]
  rw [u8_wrap]
theorem p_u8cv [Glob] {x : Opd} {a : UInt8} (hx : x.ev s = some (eb a)) : pop s R (.cvi .i64 x) = some (.int .i64 (a.toNat : Int)) := by
  have h1 := a.toNat_lt
  simp only [pop, hx, Option.bind_some, cviv, eb]
  rw [i64_wrap (by omega) (by omega)]
theorem p_rem [Glob] {x y : Opd} {k : IntKind} {a b : Int} {u : Unit} (h : nz b = some u) (hx : x.ev s = some (.int k a)) (hy : y.ev s = some (.int k b)) : pop s R (.bin .rem x y) = some (.int k (a.tmod b)) := by
  simp only [pop, hx, hy, opt2, binv, isShift, ibin]
  simp [nz_inv h]
theorem p_pick1 {c x y : Opd} {t : Bool} {p : PV} (ht : t = true) (hc : c.ev s = some (.bool t)) (hx : x.ev s = some p) : pop s R (.pick c x y) = some p := by
  simp only [pop, hc, hx, ht, cond_true]
theorem p_pick0 {c x y : Opd} {t : Bool} {p : PV} (ht : t = false) (hc : c.ev s = some (.bool t)) (hx : y.ev s = some p) : pop s R (.pick c x y) = some p := by
  simp only [pop, hc, hx, ht, cond_false]
end
section
variable {P : Program} {T : Nat → Bool} {α : Type}
theorem wapp [Glob] (t' : Nat) {t e sz bytes d n : Nat} {x y : Opd} {g : Option (Nat × Bool)} {r : List Ins} {st : St} {K : St → Prop} {q : PV} {f : α → PV} {a b z : List α} (h : appL bytes a b = some z) (hg : gok st.s g = some true) (hx : x.ev st.s = some (.slr t 0 n)) (hn : n = a.length) (hr : st.r t = some ⟨sz, true, a.map f⟩)
    (hy : y.ev st.s = some q) (he : elemsv st.r sz q = some (b.map f)) (hT : T t = false) (hb : Nat.ble 1 bytes = true) (ht : st.r t' = none) (hty : appOk t' e (.slr t 0 n) = true)
    (k : Wr P T r ⟨upd (killS t st.s) d (some (.slr t' 0 z.length)), upd (killR t st.r) t' (some ⟨sz, true, z.map f⟩)⟩ K) : Wr P T (⟨some d, .app e sz bytes x y, g⟩ :: r) st K := by
  obtain ⟨h1, rfl⟩ := appL_inv h
  subst hn
  refine ⟨st, _, Norm.refl, .run hg (oapp (tok := some t) (xs := a.map f) (ys := b.map f) t' hx hy ?_ he (fun u hu => by cases hu; exact hT) hb (by simpa using h1) ht hty), ?_⟩
  · simp only [basev, hr]
    rw [if_pos ⟨trivial, trivial, by simp⟩]
    rfl
  · simpa [appSt, St.put, List.map_append] using k
theorem wappn [Glob] (t' : Nat) {e sz bytes d : Nat} {x y : Opd} {g : Option (Nat × Bool)} {r : List Ins} {st : St} {K : St → Prop} {q : PV} {f : α → PV} {b z : List α} (h : appL bytes ([] : List α) b = some z) (hg : gok st.s g = some true) (hx : x.ev st.s = some .nl)
    (hy : y.ev st.s = some q) (he : elemsv st.r sz q = some (b.map f)) (hb : Nat.ble 1 bytes = true) (ht : st.r t' = none) (hty : appOk t' e .nl = true)
    (k : Wr P T r ⟨upd st.s d (some (.slr t' 0 z.length)), upd st.r t' (some ⟨sz, true, z.map f⟩)⟩ K) : Wr P T (⟨some d, .app e sz bytes x y, g⟩ :: r) st K := by
  obtain ⟨h1, rfl⟩ := appL_inv h
  refine ⟨st, _, Norm.refl, .run hg (oapp (tok := none) (xs := []) (ys := b.map f) t' hx hy rfl he nofun hb (by simpa using h1) ht hty), ?_⟩
  simpa [appSt, St.put] using k
theorem wsto [Glob] {sz rsz t j o : Nat} {x y : Opd} {dst : Option Nat} {g : Option (Nat × Bool)} {r : List Ins} {st : St} {K : St → Prop} {f : α → PV} {l : List α} {e e' : α} {pr : Bool} {q : PV} (h : l[j]? = some e) (hg : gok st.s g = some true) (hx : x.ev st.s = some (.ptr t j o)) (hr : st.r t = some ⟨rsz, pr, l.map f⟩)
    (hy : y.ev st.s = some q) (hq : Nat.beq q.cells.length sz = true) (h0 : Nat.ble 1 sz = true) (h1 : q.cells.all PV.one = true) (hfit : Nat.ble (o + sz) rsz = true) (hpr : pr = true → q.free = true) (he : spl (f e) o q.cells = f e')
    (k : Wr P T r (St.put ⟨st.s, upd st.r t (some ⟨rsz, pr, (l.set j e').map f⟩)⟩ dst .undef) K) : Wr P T (⟨dst, .store sz x y, g⟩ :: r) st K := by
  refine ⟨st, _, Norm.refl, .run hg (osto (row := ⟨rsz, pr, l.map f⟩) (y := f e) hx hy hr (by show (l.map f)[j]? = _; rw [List.getElem?_map, h]; rfl) hq h0 h1 hfit hpr), ?_⟩
  have : ((l.map f).set j (spl (f e) o q.cells)) = (l.set j e').map f := by rw [he, List.map_set]
  simpa [this] using k
theorem wstb [Glob] {sz rsz t o : Nat} {x y : Opd} {dst : Option Nat} {g : Option (Nat × Bool)} {r : List Ins} {st : St} {K : St → Prop} {e e' : PV} {pr : Bool} {q : PV} (hg : gok st.s g = some true) (hx : x.ev st.s = some (.ptr t 0 o)) (hr : st.r t = some ⟨rsz, pr, [e]⟩)
    (hy : y.ev st.s = some q) (hq : Nat.beq q.cells.length sz = true) (h0 : Nat.ble 1 sz = true) (h1 : q.cells.all PV.one = true) (hfit : Nat.ble (o + sz) rsz = true) (hpr : pr = true → q.free = true) (he : spl e o q.cells = e')
    (k : Wr P T r (St.put ⟨st.s, upd st.r t (some ⟨rsz, pr, [e']⟩)⟩ dst .undef) K) : Wr P T (⟨dst, .store sz x y, g⟩ :: r) st K := by
  refine ⟨st, _, Norm.refl, .run hg (osto (row := ⟨rsz, pr, [e]⟩) (y := e) (i := 0) hx hy hr rfl hq h0 h1 hfit hpr), ?_⟩
  subst he
  exact k
theorem wpp [Glob] {d : Option Nat} {op : IOp} {g : Option (Nat × Bool)} {r : List Ins} {st : St} {K : St → Prop} {p : PV} (hg : gok st.s g = some true) (h : pop st.s st.r op = some p) (k : Wr P T r (st.put d p) K) : Wr P T (⟨d, op, g⟩ :: r) st K :=
  ⟨st, _, Norm.refl, .run hg (opop h), k⟩
theorem woo [Glob] {d : Option Nat} {op : IOp} {g : Option (Nat × Bool)} {r : List Ins} {st st' : St} {K : St → Prop} (hg : gok st.s g = some true) (h : OpS P T op d st st') (k : Wr P T r st' K) : Wr P T (⟨d, op, g⟩ :: r) st K :=
  ⟨st, _, Norm.refl, .run hg h, k⟩
theorem wsk [Glob] {d : Option Nat} {op : IOp} {g : Option (Nat × Bool)} {r : List Ins} {st : St} {K : St → Prop} (hg : gok st.s g = some false) (k : Wr P T r (st.put d .undef) K) : Wr P T (⟨d, op, g⟩ :: r) st K :=
  ⟨st, _, Norm.refl, .skip hg, k⟩
inductive Bors (R : Rows) : List PV → List PV → Prop
  | nil : Bors R [] []
  | cons {p q : PV} {l m : List PV} (h : Sub (p.bor noRows R) q) (k : Bors R l m) : Bors R (p :: l) (q :: m)
theorem Bors.subs {R : Rows} {l m : List PV} (h : Bors R l m) : Subs (l.map (PV.bor noRows R)) m := by
  induction h with
  | nil => exact .nil
  | cons h _ ih => exact .cons h ih
theorem sub_eq [Glob] {p q : PV} (h : p = q) : Sub p q := h ▸ sub_rfl
theorem bor_row [Glob] {R : Rows} {t lo n sz : Nat} {cs ys : List PV} (hr : R t = some ⟨sz, true, cs⟩) (h : (cs.drop lo).take n = ys) : Sub (PV.bor noRows R (.slr t lo n)) (.sl sz ys) := by
  have : PV.bor noRows R (.slr t lo n) = .sl sz ys := by
    simp only [PV.bor, PV.map, bs, noRows, hr, h, cond_true]
  exact sub_eq this
theorem ocal [Glob] {d : Option Nat} {f : FuncId} {xs : List Opd} {st : St} {ps qs : List PV} {res : PV} (hs : Sat P f noRows qs res noRows) (h : evs st.s xs = some ps) (hq : Bors st.r ps qs) (hf : (ps.all PV.free || res.nosl) = true) (ht : res.free = true)
    (htk : PV.tks (fun t => (st.r t).isSome) ps = true) : OpS P T (.call f xs) d st (st.put d res) :=
  ocall h rfl (hs.subs hq.subs) hf ht htk
theorem pcal [Glob] {f : FuncId} {xs : List Opd} {st : St} {ps qs : List PV} {res : PV} (hs : Sat P f noRows qs res noRows) (h : evs st.s xs = some ps) (hq : Bors st.r ps qs) (hf : (ps.all PV.free || res.nosl) = true) (ht : res.free = true)
    (htk : PV.tks (fun t => (st.r t).isSome) ps = true) : PurS P (.call f xs) st.s st.r res noRows := by
  refine .call ps res noRows h ?_ (hs.subs hq.subs) (PV.tk_free ht _) (fun t row h => by simp [noRows] at h) (fun p hp => PV.tks_mem htk p hp)
  rw [Bool.or_eq_true] at hf
  rcases hf with hf | hf
  · exact .inl fun p hp => PV.tk_free (List.all_eq_true.1 hf p hp) _
  · exact .inr ⟨hf, fun t row h => by simp [noRows] at h⟩
end
end Go.Vd
end
section
set_option linter.unusedVariables false
set_option linter.unusedSimpArgs false
namespace Go.Vd
open Go.RowKit
section
variable {P : Program} {T : Nat → Bool}
theorem xseg [Glob] {a b : IC} {st : St} {Q : Xt → St → Prop} (s1 : St) (ha : WX P T a st (After (fun s => Norm T s s1) Q)) (hb : WX P T b s1 Q) : WX P T (.seq a b) st Q := by
  refine xseq (xmono ha ?_)
  intro e s h
  cases e with
  | normal => exact xnorm h hb
  | exit i => exact h
  | ret => exact h
theorem pcalv [Glob] {g : Opd} {f : FuncId} {xs : List Opd} {st : St} {caps ps qs : List PV} {res : PV} (hs : Sat P f noRows qs res noRows) (hg : g.ev st.s = some (.clo f caps)) (hok : okFunc P f = true) (h : evs st.s xs = some ps) (hq : Bors st.r (ps ++ caps) qs) (hf : ((ps ++ caps).all PV.free || res.nosl) = true) (ht : res.free = true)
    (htk : PV.tks (fun t => (st.r t).isSome) (ps ++ caps) = true) : PurS P (.calv g xs) st.s st.r res noRows := by
  refine .calv f caps ps res noRows hg hok h ?_ (hs.subs hq.subs) (PV.tk_free ht _) (fun t row h => by simp [noRows] at h) (fun p hp => PV.tks_mem htk p hp)
  rw [Bool.or_eq_true] at hf
  rcases hf with hf | hf
  · exact .inl fun p hp => PV.tk_free (List.all_eq_true.1 hf p hp) _
  · exact .inr ⟨hf, fun t row h => by simp [noRows] at h⟩
theorem ocalv [Glob] {d : Option Nat} {g : Opd} {f : FuncId} {xs : List Opd} {st : St} {caps ps qs : List PV} {res : PV} (hs : Sat P f noRows qs res noRows) (hg : g.ev st.s = some (.clo f caps)) (hok : okFunc P f = true) (h : evs st.s xs = some ps) (hq : Bors st.r (ps ++ caps) qs) (hf : ((ps ++ caps).all PV.free || res.nosl) = true) (ht : res.free = true)
    (htk : PV.tks (fun t => (st.r t).isSome) (ps ++ caps) = true) : OpS P T (.calv g xs) d st (st.put d res) := by
  have := OpS.pur (P := P) (T := T) (dst := d) res noRows (pcalv hs hg hok h hq hf ht htk) no_fresh
  rwa [mrg_no] at this
def bfs (t : Nat) : Nat → Nat → Nat → PV := fun u lo n => bif Nat.beq u t then .any else .slr u lo n
def bfp (t : Nat) (cs : List PV) : Nat → Nat → Nat → PV := fun u i o => bif Nat.beq u t then .ep (cs.drop o) else .ptr u i o
def PV.bfz (t : Nat) (cs : List PV) (p : PV) : PV := p.map (bfs t) (bfp t cs)
def Row.bfz (t : Nat) (cs : List PV) (r : Row) : Row := bif r.pr then r else ⟨r.sz, r.pr, r.cs.map (PV.bfz t cs)⟩
def bfzS (t : Nat) (cs : List PV) (s : Slots) : Slots := fun k => (s k).map (PV.bfz t cs)
def bfzR (t : Nat) (cs : List PV) (r : Rows) : Rows := fun u => bif Nat.beq u t then none else (r u).map (Row.bfz t cs)
theorem bfs_one (t u lo n : Nat) : (bfs t u lo n).one = true := by unfold bfs; cases Nat.beq u t <;> rfl
theorem bfp_one (t : Nat) (cs : List PV) (u i o : Nat) : (bfp t cs u i o).one = true := by unfold bfp; cases Nat.beq u t <;> rfl
theorem PV.bfz_one [Glob] {t : Nat} {cs : List PV} {p : PV} (h : p.one = true) : (p.bfz t cs).one = true := PV.map_one (bfs_one t) (bfp_one t cs) p h
theorem PV.bfz_cells [Glob] (t : Nat) (cs : List PV) (p : PV) : (p.bfz t cs).cells = p.cells.map (PV.bfz t cs) := PV.map_cells (bfs_one t) (bfp_one t cs) p
theorem Row.bfz_sz (t : Nat) (cs : List PV) (r : Row) : (r.bfz t cs).sz = r.sz := by unfold Row.bfz; cases r.pr <;> rfl
theorem Row.bfz_pr (t : Nat) (cs : List PV) (r : Row) : (r.bfz t cs).pr = r.pr := by unfold Row.bfz; cases h : r.pr <;> simp [h]
theorem Row.bfz_len (t : Nat) (cs : List PV) (r : Row) : (r.bfz t cs).cs.length = r.cs.length := by unfold Row.bfz; cases r.pr <;> simp
theorem bfzR_inv [Glob] {t u : Nat} {cs : List PV} {R : Rows} {r : Row} (h : bfzR t cs R u = some r) : u ≠ t ∧ ∃ r', R u = some r' ∧ r = r'.bfz t cs := by
  unfold bfzR at h
  by_cases hu : u = t
  · rw [hu, beq_true] at h; cases h
  · rw [beq_false hu, cond_false] at h
    obtain ⟨r', hr, rfl⟩ := Option.map_eq_some_iff.1 h
    exact ⟨hu, r', hr, rfl⟩
theorem bfzR_of [Glob] {t u : Nat} {cs : List PV} {R : Rows} {r : Row} (hu : u ≠ t) (h : R u = some r) : bfzR t cs R u = some (r.bfz t cs) := by
  unfold bfzR
  rw [beq_false hu, cond_false, h]
  rfl
theorem StRel.bfreeze [Glob] {w0 w : World} {O : Nat → Prop} {L : Lent} {n : Nat} {μ : Mu} {st : St} {a : Act} (h : StRel w0 O L n μ st a w) (t : Nat) {sz : Nat} {pr : Bool} {x : PV} (ht : st.r t = some ⟨sz, pr, [x]⟩) (hfree : ∀ q ∈ x.cells, q.free = true) (hT : L.T t = false) : StRel w0 O L n μ ⟨bfzS t x.cells st.s, bfzR t x.cells st.r⟩ a w := by
  have hO : ∀ b, Av O μ (bfzR t x.cells st.r) b → Av O μ st.r b := by
    rintro b (h1 | ⟨u, r, l, h1, h2, h3⟩)
    · exact .inl h1
    · obtain ⟨hu, r', hr, rfl⟩ := bfzR_inv h1
      exact .inr ⟨u, r', l, hr, h2, h3⟩
  have hown : ∀ l, μ t = some l → ¬ Av O μ (bfzR t x.cells st.r) l.b := by
    rintro l hl (h1 | ⟨u, r, l', h1, h2, h3⟩)
    · exact (h.own t _ l ht hl).1 h1
    · obtain ⟨hu, r', hr, rfl⟩ := bfzR_inv h1
      exact hu (h.inj u t r' _ l' l hr ht h2 hl h3)
  have hR : ∀ u r, u ≠ t → st.r u = some r → ∃ r', bfzR t x.cells st.r u = some r' ∧ r'.sz = r.sz ∧ r'.cs.length = r.cs.length :=
    fun u r hu hr => ⟨_, bfzR_of hu hr, Row.bfz_sz _ _ _, Row.bfz_len _ _ _⟩
  have hep : ∀ i o v, Rel w (Av O μ st.r) μ st.r (.ptr t i o) v → Rel0 w (Av O μ (bfzR t x.cells st.r)) (.ep (x.cells.drop o)) v := by
    intro i o v hv
    cases hv with
    | base _ _ h => cases h
    | ptr _ _ _ r l hr hm hi ho =>
      rw [ht] at hr
      cases hr
      have hi0 : i = 0 := by simp at hi; omega
      subst hi0
      obtain ⟨arr, ety, fz, h1, h2, h3, h4, h5⟩ := (h.row t _ ht).lie l hm
      have hel := (h.row t _ ht).el x (by simp)
      have hg : ∀ (j : Nat) (p : PV), (x.cells.drop o)[j]? = some p → ∃ u, arr[l.base + (o + j)]? = some u ∧ Rel0 w (Av O μ (bfzR t x.cells st.r)) p u := by
        intro j p hj
        rw [List.getElem?_drop] at hj
        obtain ⟨u, hu, hc⟩ := h5 0 x (o + j) p (by simp) hj
        refine ⟨u, by simpa using hu, ?_⟩
        exact (hc.rel.free (hfree p (List.mem_of_getElem? hj))).frame (fun _ _ _ => rfl) (fun b _ hb => hO b hb)
      let V : Nat → Value := fun j => (arr[l.base + (o + j)]?).getD undef
      have := Rel0.ep (w := w) (O := Av O μ (bfzR t x.cells st.r)) (x.cells.drop o) l.b (l.base + (0 * sz + o)) V (hown l hm) (by
          intro e
          have : (x.cells.drop o).length = 0 := by rw [e]; rfl
          rw [List.length_drop, hel.1] at this
          exact Nat.not_lt.2 (Nat.le_of_sub_eq_zero this) ho) (fun p hp => hel.2 p (List.mem_of_mem_drop hp)) (fun j p hj => by
          obtain ⟨u, hu, _⟩ := hg j p hj
          have : V j = u := by show (arr[l.base + (o + j)]?).getD undef = u; rw [hu]; rfl
          rw [this]
          unfold World.cell?
          rw [h1]
          simp only
          rw [show l.base + (0 * sz + o) + j = l.base + (o + j) by omega]
          exact hu) (fun j p hj => by
          obtain ⟨u, hu, hr⟩ := hg j p hj
          have : V j = u := by show (arr[l.base + (o + j)]?).getD undef = u; rw [hu]; rfl
          rw [this]
          exact hr)
      simpa using this
  have key : ∀ {p : PV} {v : Value}, Rel w (Av O μ st.r) μ st.r p v → Rel w (Av O μ (bfzR t x.cells st.r)) μ (bfzR t x.cells st.r) (p.bfz t x.cells) v := by
    intro p v hp
    refine Rel.map (fs := bfs t) (fp := bfp t x.cells) (fun _ _ _ => rfl) (fun b _ hb => hO b hb) (bfs_one t) (bfp_one t x.cells) (fun u lo m v hv => ?_) (fun u i o v hv => ?_) hp
    · unfold bfs
      by_cases hu : u = t
      · rw [hu, beq_true]
        exact .base _ _ (.any v (hv.oneCell rfl))
      · rw [beq_false hu]
        cases hv with
        | base _ _ h => cases h
        | slr _ _ _ c r l hr hm hn hc hroom =>
          obtain ⟨r', h2, h3, h4⟩ := hR u r hu hr
          rw [← h3]
          exact .slr u lo m c r' l h2 hm (by omega) hc (by rw [h3]; exact hroom)
        | slr0 _ _ r A hr hn =>
          obtain ⟨r', h2, h3, h4⟩ := hR u r hu hr
          exact .slr0 u lo r' A h2 (by omega)
    · unfold bfp
      by_cases hu : u = t
      · subst hu
        rw [beq_true]
        exact .base _ _ (hep i o v hv)
      · rw [beq_false hu]
        cases hv with
        | base _ _ h => cases h
        | ptr _ _ _ r l hr hm hi ho =>
          obtain ⟨r', h2, h3, h4⟩ := hR u r hu hr
          rw [← h3]
          exact .ptr u i o r' l h2 hm (by omega) (by omega)
  refine ⟨h.dfr, h.size, h.fr, h.out, fun k p hk => ?_, fun u r hr => ?_, ?_, ?_, fun u hu => ?_⟩
  · obtain ⟨q, hq, rfl⟩ := Option.map_eq_some_iff.1 hk
    obtain ⟨v, hv, hrel⟩ := h.slot k q hq
    exact ⟨v, hv, key hrel⟩
  · obtain ⟨hu, r', hr', rfl⟩ := bfzR_inv hr
    have hrr := h.row u r' hr'
    refine ⟨by rw [Row.bfz_sz]; exact hrr.sz, fun y hy => ?_, fun hn => ?_, fun l hl => ?_, fun k hk l hl => by
      obtain ⟨e1, arr, fz, e2, e3⟩ := hrr.ty k hk l hl
      exact ⟨e1, arr, fz, e2, by rw [Row.bfz_pr, Row.bfz_sz]; exact e3⟩⟩
    · rw [Row.bfz_sz]
      unfold Row.bfz at hy
      cases hp : r'.pr with
      | true => rw [hp, cond_true] at hy; exact hrr.el y hy
      | false =>
        rw [hp, cond_false] at hy
        obtain ⟨z, hz, rfl⟩ := List.mem_map.1 hy
        obtain ⟨h1, h2⟩ := hrr.el z hz
        rw [PV.bfz_cells]
        refine ⟨by simpa using h1, fun p hp' => ?_⟩
        obtain ⟨q, hq, rfl⟩ := List.mem_map.1 hp'
        exact PV.bfz_one (h2 q hq)
    · have := hrr.non hn
      have hl := Row.bfz_len t x.cells r'
      rw [this] at hl
      exact List.eq_nil_of_length_eq_zero (by simpa using hl)
    · obtain ⟨arr, ety, fz, h1, h2, h3, h4, h5⟩ := hrr.lie l hl
      refine ⟨arr, ety, fz, h1, h2, by rw [Row.bfz_len, Row.bfz_sz]; exact h3, h4, fun i y j p hi hj => ?_⟩
      rw [Row.bfz_sz, Row.bfz_pr]
      unfold Row.bfz at hi
      cases hp : r'.pr with
      | true =>
        rw [hp, cond_true] at hi
        obtain ⟨v, hv, hc⟩ := h5 i y j p hi hj
        refine ⟨v, hv, ?_⟩
        rw [hp] at hc
        unfold CellRel at hc ⊢
        rw [if_pos rfl] at hc ⊢
        exact hc.frame (fun _ _ _ => rfl) (fun b _ hb => hO b hb)
      | false =>
        rw [hp, cond_false] at hi
        rw [List.getElem?_map] at hi
        obtain ⟨z, hz, rfl⟩ := Option.map_eq_some_iff.1 hi
        rw [PV.bfz_cells, List.getElem?_map] at hj
        obtain ⟨q, hq, rfl⟩ := Option.map_eq_some_iff.1 hj
        obtain ⟨v, hv, hc⟩ := h5 i z j q hz hq
        refine ⟨v, hv, ?_⟩
        rw [hp] at hc
        unfold CellRel at hc ⊢
        rw [if_neg (by simp)] at hc ⊢
        exact key hc
  · intro u u' r r' l l' h1 h2 h3 h4 h5
    obtain ⟨_, s, hs, _⟩ := bfzR_inv h1
    obtain ⟨_, s', hs', _⟩ := bfzR_inv h2
    exact h.inj u u' s s' l l' hs hs' h3 h4 h5
  · intro u r l h1 h2
    obtain ⟨_, s, hs, _⟩ := bfzR_inv h1
    exact h.own u s l hs h2
  · obtain ⟨h1, r, h2⟩ := h.keep u hu
    have hne : u ≠ t := fun e => by rw [e, hT] at hu; cases hu
    exact ⟨h1, _, bfzR_of hne h2⟩
theorem bfreeze [Glob] {st : St} (t : Nat) {sz : Nat} {pr : Bool} {x : PV} (ht : st.r t = some ⟨sz, pr, [x]⟩) (hfree : x.cells.all PV.free = true) (hT : T t = false) : Norm T st ⟨bfzS t x.cells st.s, bfzR t x.cells st.r⟩ := by
  intro w0 O L n μ a w hL h
  exact ⟨μ, h.bfreeze t ht (fun q hq => List.all_eq_true.1 hfree q hq) (hL ▸ hT)⟩
end
end Go.Vd
end
section
set_option linter.unusedVariables false
set_option linter.unusedSimpArgs false
namespace Go.Vd
open Go.RowKit
section
variable {P : Program} {T : Nat → Bool}
theorem xsatC [Glob] (T : Nat → Bool) (hm : P.follows .mixedOrders = true) {f : FuncId} {fn : Func} {n : Nat} {code : IC} {rv : List IRes} (hf : P.funcs[f]? = some fn) (hc : cfunc P fn = some ⟨n, code, rv⟩) {m mo : List (Nat × Row)} {ps rs : List PV} {res : PV} (hr : resOf rs = res) (hlen : Nat.ble ps.length n = true)
    (hTi : ∀ t, T t = true → ∃ row, ofL m t = some row) (hri : ∀ t row row', ofL m t = some row → ofL mo t = some row' → T t = true ∧ row'.sz = row.sz ∧ row'.cs.length = row.cs.length)
    (h : WX P T code ⟨s0 n ps, ofL m⟩ fun e st' => (∀ id, e ≠ .exit id) ∧ gets st' rv = some rs ∧ PV.tks (fun t => (ofL mo t).isSome) rs = true ∧ AllAt st'.r mo ∧ rowsTk (fun t => (ofL mo t).isSome) (mo.map (·.2)) = true) : SatC P f (ofL m) ps res (ofL mo) := by
  obtain ⟨e, s, h1, h2, h3, h4, h5, h6⟩ := h
  subst hr
  exact sat_fnC hm hf hc T hTi (Nat.le_of_ble_eq_true hlen) h1 h2 h3 h4 (fun t row ht => ⟨h5.get t row ht, rowsTk_mem h6 row (ofL_mem ht)⟩) hri
def freshL (r m : Rows) : List (Nat × Row) → Bool
  | [] => true
  | (t, _) :: l => ((m t).isSome || !(r t).isSome) && freshL r m l
theorem freshL_spec [Glob] {r m : Rows} : ∀ {l : List (Nat × Row)}, freshL r m l = true → ∀ t row, ofL l t = some row → m t = none → r t = none
  | [], _, t, row, h, _ => by cases h
  | (k, v) :: l, h, t, row, hl, hm => by
    simp only [freshL, Bool.and_eq_true, Bool.or_eq_true] at h
    unfold ofL at hl
    cases hk : Nat.beq t k with
    | true =>
      have e := Nat.eq_of_beq_eq_true hk
      subst e
      rcases h.1 with h1 | h1
      · rw [hm] at h1; cases h1
      · cases hr : r t with
        | none => rfl
        | some x => rw [hr] at h1; cases h1
    | false =>
      rw [hk] at hl
      exact freshL_spec h.2 t row hl hm
def goneT (T : Nat → Bool) (mo : Rows) : List (Nat × Row) → Bool
  | [] => true
  | (t, _) :: l => ((mo t).isSome || !T t) && goneT T mo l
theorem goneT_spec [Glob] {T : Nat → Bool} {mo : Rows} : ∀ {l : List (Nat × Row)}, goneT T mo l = true → ∀ t, (ofL l t).isSome = true → (mo t).isSome = false → T t = false
  | [], _, t, h, _ => by cases h
  | (k, v) :: l, h, t, hl, hm => by
    simp only [goneT, Bool.and_eq_true, Bool.or_eq_true] at h
    unfold ofL at hl
    cases hk : Nat.beq t k with
    | true =>
      have e := Nat.eq_of_beq_eq_true hk
      subst e
      rcases h.1 with h1 | h1
      · rw [hm] at h1; cases h1
      · simpa using h1
    | false =>
      rw [hk] at hl
      exact goneT_spec h.2 t hl hm
theorem callok_L [Glob] {st : St} {m mo : List (Nat × Row)} (hs : AllAt st.r m) (htk : rowsTk (fun t => (ofL m t).isSome) (m.map (·.2)) = true) (hf : freshL st.r (ofL m) mo = true) : CallOk st (ofL m) (ofL mo) :=
  ⟨fun t row ht => ⟨hs.get t row ht, rowsTk_mem htk row (ofL_mem ht)⟩, fun t row ht hn => freshL_spec hf t row ht hn⟩
theorem free_L {m : List (Nat × Row)} {mo : Rows} {ps : List PV} {res : PV} (h : PV.tks (fun t => (ofL m t).isSome) ps = true) : Free (ofL m) ps res mo := .inl fun p hp => PV.tks_mem h p hp
theorem olend [Glob] (m mo : List (Nat × Row)) {d : Option Nat} {f : FuncId} {xs : List Opd} {st : St} {ps qs : List PV} {res : PV} (hs : Sat P f (ofL m) qs res (ofL mo)) (h : evs st.s xs = some ps) (hq : ps.map (PV.bor (ofL m) st.r) = qs) (hr : AllAt st.r m)
    (htk : rowsTk (fun t => (ofL m t).isSome) (m.map (·.2)) = true) (hf : freshL st.r (ofL m) mo = true) (hfr : PV.tks (fun t => (ofL m t).isSome) ps = true) : OpS P T (.call f xs) d st (St.put ⟨st.s, mrg (ofL mo) st.r⟩ d res) :=
  .lend ps _ _ res h (callok_L hr htk hf) (free_L hfr) (hq ▸ hs)
theorem olendC [Glob] (m mo : List (Nat × Row)) {d : Option Nat} {f : FuncId} {xs : List Opd} {st : St} {ps qs : List PV} {res : PV} (hs : SatC P f (ofL m) qs res (ofL mo)) (h : evs st.s xs = some ps) (hq : ps.map (PV.bor (ofL m) st.r) = qs) (hr : AllAt st.r m)
    (htk : rowsTk (fun t => (ofL m t).isSome) (m.map (·.2)) = true) (hf : freshL st.r (ofL m) mo = true) (hfr : PV.tks (fun t => (ofL m t).isSome) ps = true) (hT : goneT T (ofL mo) m = true) :
    OpS P T (.call f xs) d st (St.put ⟨killSP (gone (ofL m) (ofL mo)) st.s, mrg (ofL mo) (killRP (gone (ofL m) (ofL mo)) st.r)⟩ d res) :=
  .lendC ps _ _ res h (callok_L hr htk hf) (free_L hfr) (hq ▸ hs) fun t ht => by
    unfold gone at ht
    rw [Bool.and_eq_true] at ht
    exact goneT_spec hT t ht.1 (by simpa using ht.2)
theorem ex_peel [Glob] {b c : IC} {st st' : St} {e : Xt} (h : Ex P T c st e st') : c = .seq b (.loop b) → Ex P T (.loop b) st e st' := by
  induction h with
  | seq h k _ _ => intro hc; cases hc; exact .loop h k
  | seqx h he _ => intro hc; cases hc; exact .loopx h he
  | norm hn k ih => intro hc; exact .norm hn (ih hc)
  | normr k hn ih => intro hc; exact .normr (ih hc) hn
  | _ => intro hc; cases hc
theorem xpeel [Glob] {b : IC} {st : St} {Q : Xt → St → Prop} (h : WX P T (.seq b (.loop b)) st Q) : WX P T (.loop b) st Q := by
  obtain ⟨e, s, h1, h2⟩ := h
  exact ⟨e, s, ex_peel h1 rfl, h2⟩
def bldS (l : List UInt8) : Option (List UInt8) := if l ≠ [] ∧ l.length ≤ 9223372036854775807 then some l else none
theorem bldS_str {p : List UInt8 → Prop} {l z : List UInt8} (h : l ≠ [] → l.length ≤ 9223372036854775807 → p l) (hz : bldS l = some z) : p z := by
  unfold bldS at hz
  split at hz
  · rename_i hc
    cases hz
    exact h hc.1 hc.2
  · cases hz
theorem bldS_c [Glob] {f : FuncId} {R : Rows} {ps : List PV} {Ro : Rows} {l z : List UInt8} (h : l ≠ [] → l.length ≤ 9223372036854775807 → SatC P f R ps (.str l) Ro) (hz : bldS l = some z) : SatC P f R ps (.str z) Ro :=
  bldS_str (p := fun z => SatC P f R ps (.str z) Ro) h hz
def mkN (bytes : Nat) (n : Int) : Option Nat := if 0 ≤ n ∧ bytes * n.toNat ≤ 281474976710656 ∧ n.toNat ≤ 9223372036854775807 then some n.toNat else none
theorem wmks [Glob] {α : Type} (t : Nat) {sz bytes d : Nat} {z : PV} {x : Opd} {g : Option (Nat × Bool)} {r : List Ins} {st : St} {K : St → Prop} {k : IntKind} {n : Int} {m : Nat} {f : α → PV} {e : α} (h : mkN bytes n = some m) (hg : gok st.s g = some true) (hx : x.ev st.s = some (.int k n)) (hz : z = f e) (hf : z.free = true) (ht : st.r t = none) (hty : tyOf t = none)
    (K' : Wr P T r ⟨upd st.s d (some (.slr t 0 m)), upd st.r t (some ⟨sz, true, (List.replicate m e).map f⟩)⟩ K) : Wr P T (⟨some d, .mks sz bytes z x, g⟩ :: r) st K := by
  unfold mkN at h
  split at h
  · rename_i hc
    obtain ⟨h1, h2, h3⟩ := hc
    cases h
    refine ⟨st, _, Norm.refl, .run hg (omks t hx (by omega) h2 h3 hf ht hty), ?_⟩
    simpa [St.put, List.map_replicate, hz] using K'
  · cases h
theorem wnK [Glob] {ios : List Ins} {st st1 : St} {K : St → Prop} {io : Ins} (hn : Norm T st st1) (k : Wr P T (io :: ios) st1 K) : Wr P T (io :: ios) st K := wn hn k
end
end Go.Vd
end
section
set_option linter.unusedVariables false
set_option linter.unusedSimpArgs false
namespace Go.Gp
open Go.Vd Go.RowKit
def strings_IndexByte (N : Nat) (s : List UInt8) (c : UInt8) : Option Int := some (Lib.indexByte s c)
def stringslite_Index (N : Nat) (s p : List UInt8) : Option Int := match p with
  | [c] => some (Lib.indexByte s c)
  | _ => none
theorem stringslite_Index_inv {N : Nat} {s p : List UInt8} {r : Int} (h : stringslite_Index N s p = some r) : ∃ c, p = [c] ∧ r = Lib.indexByte s c := by
  unfold stringslite_Index at h
  split at h
  · rename_i c; exact ⟨c, rfl, by simpa using h.symm⟩
  · cases h
def strings_Join (N : Nat) (xs : List (List UInt8)) (sep : List UInt8) : Option (List UInt8) := if xs.length ≤ 140737488355328 ∧ (Lib.join xs sep).length ≤ 140737488355328 then some (Lib.join xs sep) else none
theorem sat_join [Glob] {P : Program} {f : FuncId} (hn : ∀ (a : Option Addr) (c : Nat) (sep : ByteArray) (w : World), Calls P f #[.slice a 0 c, .string sep] w fun e w' => e = .returned (.string ⟨#[]⟩) ∧ w' = w)
    (hj : ∀ (bk o c : Nat) (xs : List ByteArray) (sep : ByteArray) (w : World), (∀ (j : Nat) x, xs[j]? = some x → w.cell? ⟨bk, o + j, none⟩ = some (.string x)) → bk < w.heap.size → xs.length ≤ 140737488355328 → xs.length ≤ c →
      (Lib.join (xs.map (·.data.toList)) sep.data.toList).length ≤ 140737488355328 → Calls P f #[.slice (some ⟨bk, o, none⟩) xs.length c, .string sep] w fun e w' => e = .returned (.string ⟨(Lib.join (xs.map (·.data.toList)) sep.data.toList).toArray⟩) ∧ Below w.heap.size w w')
    {N : Nat} {xs : List (List UInt8)} {sep r : List UInt8} (h : strings_Join N xs sep = some r) : Sat P f noRows [.sl 1 (List.map PV.str xs), .str sep] (.str r) noRows := by
  unfold strings_Join at h
  by_cases hc : xs.length ≤ 140737488355328 ∧ (Lib.join xs sep).length ≤ 140737488355328
  case neg => rw [if_neg hc] at h; cases h
  rw [if_pos hc] at h
  obtain ⟨hc1, hc2⟩ := hc
  cases h
  intro O μ w vs hO hin hargs
  have hl := hargs.len
  have post : ∀ w', Below w.heap.size w w' → ∃ v μ', Ending.returned (.string ⟨(Lib.join xs sep).toArray⟩) = .returned v ∧ Fr (Owned μ noRows) w w' ∧ InRel w' O μ' noRows ∧ (∀ t row, noRows t = some row → μ' t = μ t ∧ ∃ row', noRows t = some row' ∧ row'.sz = row.sz ∧ row'.cs.length = row.cs.length) ∧
      (∀ t row l, noRows t = some row → noRows t = none → μ' t = some l → w.heap.size ≤ l.b) ∧ Rel w' (Av O μ' noRows) μ' noRows (.str (Lib.join xs sep)) v := by
    intro w' hb
    exact ⟨_, μ, rfl, ⟨hb.os, hb.tape, hb.output, hb.size, fun b hb2 _ => hb.block b hb2⟩, ⟨fun t row ht => by simp [noRows] at ht, fun t t' row row' l l' h => by simp [noRows] at h, fun t row l h => by simp [noRows] at h⟩,
      fun t row ht => by simp [noRows] at ht, fun t row l ht => by simp [noRows] at ht, .base _ _ (.str _)⟩
  match vs, hl with
  | [v1, v2], _ =>
    have r1 := hargs.rel 0 _ v1 rfl rfl
    have r2 := (hargs.rel 1 _ v2 rfl rfl).str_inv
    subst r2
    cases r1 with
    | base _ _ h =>
      generalize hx : List.map PV.str xs = ys at h
      cases h with
      | sl0 _ A c =>
        have : xs = [] := by simpa using hx
        subst this
        refine (hn A c ⟨sep.toArray⟩ w).mono ?_
        rintro e w' ⟨rfl, rfl⟩
        exact post _ (Below.refl _ _)
      | sl _ _ b o c V ho hxx hcap hz hs h1 h2 =>
        subst hx
        have hcell : ∀ (j : Nat) (x : ByteArray), (xs.map fun l => (⟨l.toArray⟩ : ByteArray))[j]? = some x → w.cell? ⟨b, o + j, none⟩ = some (.string x) := by
          intro j x hj
          rw [List.getElem?_map] at hj
          obtain ⟨l, hl, rfl⟩ := Option.map_eq_some_iff.1 hj
          have e1 := h1 j (.str l) 0 (.str l) (by rw [List.getElem?_map, hl]; rfl) rfl
          have e2 := h2 j (.str l) 0 (.str l) (by rw [List.getElem?_map, hl]; rfl) rfl
          generalize V j 0 = v at e1 e2
          cases e2
          simpa using e1
        have hne : xs ≠ [] := by intro e; subst e; exact hxx rfl
        obtain ⟨x0, hx0⟩ : ∃ x, (xs.map fun l => (⟨l.toArray⟩ : ByteArray))[0]? = some x := by
          cases xs with
          | nil => exact absurd rfl hne
          | cons x r => exact ⟨_, rfl⟩
        have hmm : (xs.map fun l => (⟨l.toArray⟩ : ByteArray)).map (·.data.toList) = xs := by
          rw [List.map_map]
          conv => rhs; rw [← List.map_id xs]
          exact List.map_congr_left fun l _ => by simp
        have hlen : (xs.map fun l => (⟨l.toArray⟩ : ByteArray)).length = (List.map PV.str xs).length := by simp
        have := hj b o c (xs.map fun l => ⟨l.toArray⟩) ⟨sep.toArray⟩ w hcell (World.block_lt_of_cell? _ _ (hcell 0 x0 hx0)) (by simpa using hc1) (by simpa using hcap) (by rw [hmm]; exact hc2)
        rw [hmm, hlen] at this
        refine this.mono ?_
        rintro e w' ⟨rfl, hb⟩
        exact post w' hb
end Go.Gp
end
section
set_option linter.unusedVariables false
set_option linter.unusedSimpArgs false
namespace Go.Vd
open Go.RowKit
def strings_Count (N : Nat) (s p : List UInt8) : Option Int := match p with
  | [c] => some (Lib.countByte s c : Int)
  | _ => none
theorem strings_Count_inv {N : Nat} {s p : List UInt8} {r : Int} (h : strings_Count N s p = some r) : ∃ c, p = [c] ∧ r = (Lib.countByte s c : Int) := by
  unfold strings_Count at h
  split at h
  · rename_i c; exact ⟨c, rfl, by simpa using h.symm⟩
  · cases h
section
variable {s : Slots} {R : Rows}
end
section
variable {T : Nat → Bool}
theorem tks_true' : ∀ l : List PV, PV.tks (fun _ => true) l = true
  | [] => rfl
  | p :: l => by rw [PV.tks, PV.tk_true, tks_true' l]; rfl
theorem rsub [Glob] (t : Nat) {sz : Nat} {x y : PV} {st : St} (hs : Subs x.cells y.cells) (ht : st.r t = some ⟨sz, false, [x]⟩) (ho : y.cells.all PV.one = true) : Norm T st ⟨st.s, upd st.r t (some ⟨sz, false, [y]⟩)⟩ := by
  intro w0 O L n μ a w hL h
  have he : ∀ u row, (fun _ => true) u = true → st.r u = some row → μ u = μ u ∧ ∃ row', upd st.r t (some ⟨sz, false, [y]⟩) u = some row' ∧ row'.sz = row.sz ∧ row.cs.length ≤ row'.cs.length := by
    intro u row _ hu
    refine ⟨rfl, ?_⟩
    by_cases e : u = t
    · subst e
      rw [ht] at hu
      cases hu
      exact ⟨_, upd_same .., rfl, Nat.le_refl _⟩
    · exact ⟨row, by rw [upd_ne _ _ e]; exact hu, rfl, Nat.le_refl _⟩
  have hin : ∀ u row, upd st.r t (some ⟨sz, false, [y]⟩) u = some row → ∃ row', st.r u = some row' := by
    intro u row hu
    by_cases e : u = t
    · subst e; exact ⟨_, ht⟩
    · rw [upd_ne _ _ e] at hu; exact ⟨_, hu⟩
  have hO : ∀ b, b < w.heap.size → Av O μ (upd st.r t (some ⟨sz, false, [y]⟩)) b → Av O μ st.r b := by
    intro b _ hb
    rcases hb with hb | ⟨u, row, l, h1, h2, h3⟩
    · exact .inl hb
    · obtain ⟨row', h4⟩ := hin u row h1
      exact .inr ⟨u, row', l, h4, h2, h3⟩
  have hw : ∀ b, b < w.heap.size → ¬ Av O μ st.r b → w.heap[b]? = w.heap[b]? := fun _ _ _ => rfl
  refine ⟨μ, h.dfr, h.size, h.fr, h.out, fun j p hj => ?_, fun u row hu => ?_, fun u u' r r' l l' h1 h2 h3 h4 h5 => ?_, fun u r l h1 h2 => ?_, fun u hu => ?_⟩
  · obtain ⟨v, hv, hr⟩ := h.slot j p hj
    exact ⟨v, hv, hr.mono (fun _ => true) hw hO he (PV.tk_true _)⟩
  · simp only at hu
    by_cases e : u = t
    · subst e
      rw [upd_same] at hu
      cases hu
      have k := h.row u _ ht
      refine ⟨k.sz, fun z hz => ?_, fun hn => ?_, fun l hl => ?_, fun q hq l hl => ?_⟩
      · simp only [List.mem_singleton] at hz
        subst hz
        have := (k.el x (by simp)).1
        exact ⟨by rw [← hs.len]; exact this, fun p hp => List.all_eq_true.1 ho p hp⟩
      · have := k.non hn
        simp at this
      · obtain ⟨arr, ety, fz, h1, h2, h3, h4, h5⟩ := k.lie l hl
        refine ⟨arr, ety, fz, h1, h2, by simpa using h3, h4, fun i z j q hi hj => ?_⟩
        cases i with
        | succ i => simp at hi
        | zero =>
          simp only [List.getElem?_cons_zero, Option.some.injEq] at hi
          subst hi
          obtain ⟨p, hp, hsub⟩ := hs.get j q hj
          obtain ⟨v, hv, hc⟩ := h5 0 x j p rfl hp
          refine ⟨v, hv, ?_⟩
          unfold CellRel at hc ⊢
          rw [if_neg (by simp)] at hc ⊢
          exact hsub _ _ _ _ _ (hc.mono (fun _ => true) hw hO he (PV.tk_true _))
      · obtain ⟨e1, arr, fz, e2, e3⟩ := k.ty q hq l hl
        exact ⟨e1, arr, fz, e2, e3⟩
    · rw [upd_ne _ _ e] at hu
      exact (h.row u row hu).mono (fun _ => true) hw hO he rfl (fun _ _ => rfl) (by unfold Row.tk; rw [tks_true']; simp)
  · obtain ⟨s, hs'⟩ := hin u r h1
    obtain ⟨s', hs''⟩ := hin u' r' h2
    exact h.inj u u' s s' l l' hs' hs'' h3 h4 h5
  · obtain ⟨s, hs'⟩ := hin u r h1
    exact h.own u s l hs' h2
  · obtain ⟨h1, r, h2⟩ := h.keep u hu
    obtain ⟨_, row', h3, _⟩ := he u r rfl h2
    exact ⟨h1, row', h3⟩
end
end Go.Vd
end
section
set_option linter.unusedVariables false
set_option linter.unusedSimpArgs false
namespace Go.Vd
section
variable {P : Program} {T : Nat → Bool} {ds : List (List Nat)} {ios : List Ins} {n : Nat} {S : List Nat} {st fin : St}
theorem xregf [Glob] {m f : Nat} {Q : Xt → St → Prop} (fin' : St) (k : Nat) (S1 S2 : List Nat) (hk : ios.length - m = k) (hS1 : List.range m = S1) (hS2 : ((List.range m).filter fun i => !Nat.beq i f) = S2)
    (h : Wr0 P (ios.take m) st (fun fin => AnyW P T ds ios k S1 fin fin' ∧ AnyW P T ds ios (k + 1) S2 (unrun ios f st fin) fin')) (q : Q .normal fin') : WX P T (.regf m f ds ios) st Q := by
  subst hk hS1 hS2
  obtain ⟨fin, h1, h2, h3⟩ := Wr0.steps h
  exact ⟨_, _, .regf h1 h2 h3, q⟩
def AllR [Glob] (P : Program) (T : Nat → Bool) (ds : List (List Nat)) (ios : List Ins) (n : Nat) (S : List Nat) (st fin : St) : List Nat → Prop
  | [] => True
  | i :: r => (∃ io, ios[i]? = some io ∧ Wr P T [io] st (fun s => AnyW P T ds ios n (i :: S) s fin)) ∧ AllR P T ds ios n S st fin r
theorem AllR.mem [Glob] : ∀ {l : List Nat}, AllR P T ds ios n S st fin l → ∀ i ∈ l, ∃ io, ios[i]? = some io ∧ Wr P T [io] st (fun s => AnyW P T ds ios n (i :: S) s fin)
  | [], _, i, h => by cases h
  | j :: r, ⟨h1, h2⟩, i, h => by
    rcases List.mem_cons.1 h with rfl | h
    · exact h1
    · exact AllR.mem h2 i h
theorem yc [Glob] {l : List Nat} (hr : rdy ds S = l) (hl : l ≠ []) (h : AllR P T ds ios n S st fin l) : AnyW P T ds ios (n + 1) S st fin :=
  ⟨fun e => absurd (hr.symm.trans e) hl, fun i hi => h.mem i (hr ▸ hi)⟩
theorem yend [Glob] (hr : rdy ds S = []) (h : Norm T st fin) : AnyW P T ds ios n S st fin := by
  cases n with
  | zero => exact ⟨hr, h⟩
  | succ n => exact ⟨fun _ => h, fun i hi => by rw [hr] at hi; cases hi⟩
theorem wnil [Glob] {K : St → Prop} (h : K st) : Wr P T [] st K := h
end
end Go.Vd
end
