/- What code comes to, walked forward. -/
import Derived.Test.YtgogpopeldnddaaVdX
set_option linter.unusedVariables false
set_option linter.unusedSimpArgs false
namespace Go.Vd
open Go.RowKit

def After (K : St → Prop) (Q : Xt → St → Prop) : Xt → St → Prop
  | .normal, st => K st
  | .exit i, st => Q (.exit i) st
  | .ret, st => Q .ret st

theorem Norm.refl {T : Nat → Bool} {st : St} : Norm T st st := fun _ _ _ _ μ _ _ _ h => ⟨μ, h⟩
theorem Norm.trans {T : Nat → Bool} {a b c : St} (h : Norm T a b) (k : Norm T b c) : Norm T a c := by
  intro w0 O L n μ x w hL hx
  obtain ⟨μ1, h1⟩ := h w0 O L n μ x w hL hx
  exact k w0 O L n μ1 x w hL h1

def Wr (P : Program) (T : Nat → Bool) : List Ins → St → (St → Prop) → Prop
  | [], st, K => K st
  | io :: r, st, K => ∃ st0 st', Norm T st st0 ∧ Step P T io st0 st' ∧ Wr P T r st' K

/-- Without marks: a mark is where states may be put in order. -/
def IC.un : IC → IC
  | .seq a b => .seq a.un b.un
  | .cond c a b => .cond c a.un b.un
  | .block id b => .block id b.un
  | .loop b => .loop b.un
  | .mark a => a.un
  | c => c

def Wp (P : Program) (T : Nat → Bool) : IC → St → (Xt → St → Prop) → Prop
  | .skip, st, Q => Q .normal st
  | .reg ios, st, Q => Wr P T ios st (Q .normal)
  | .regd m ios, st, Q => ∃ fin, Steps0 P (ios.take m) st fin ∧ Wr P T (ios.drop m) fin (Q .normal)
  | .seq a b, st, Q => Wp P T a st (After (fun s => Wp P T b s Q) Q)
  | .cond c a b, st, Q => ∃ t, c.ev st.s = some (.bool t) ∧ (t = true → Wp P T a st Q) ∧ (t = false → Wp P T b st Q)
  | .block id b, st, Q => Wp P T b st (fun e s => Q (e.blk id) s)
  | .loop b, st, Q => ∃ e st', Ex P T (.loop b.un) st e st' ∧ Q e st'
  | .exit id, st, Q => Q (.exit id) st
  | .ret, st, Q => Q .ret st
  | .mark a, st, Q => Wp P T a st (fun e s => ∃ s', Norm T s s' ∧ Q e s')

section
variable {P : Program} {T : Nat → Bool}

theorem Wr.ex : ∀ {ios : List Ins} {st : St} {K : St → Prop}, Wr P T ios st K → ∃ st', Steps P T ios st st' ∧ K st'
  | [], st, K, h => ⟨st, .nil, h⟩
  | io :: r, st, K, ⟨st0, st1, hn, h1, h2⟩ => by
    obtain ⟨st', h3, h4⟩ := Wr.ex h2
    exact ⟨st', .norm hn (.cons h1 h3), h4⟩

theorem Wp.ex : ∀ {c : IC} {st : St} {Q : Xt → St → Prop}, Wp P T c st Q → ∃ e st', Ex P T c.un st e st' ∧ Q e st'
  | .skip, st, Q, h => ⟨.normal, st, .skip, h⟩
  | .reg ios, st, Q, h => by
    obtain ⟨st', h1, h2⟩ := Wr.ex h
    exact ⟨.normal, st', .reg h1, h2⟩
  | .regd m ios, st, Q, ⟨fin, h0, h⟩ => by
    obtain ⟨st', h1, h2⟩ := Wr.ex h
    exact ⟨.normal, st', .regd h0 h1, h2⟩
  | .seq a b, st, Q, h => by
    obtain ⟨e, st1, h1, h2⟩ := Wp.ex (c := a) h
    cases e with
    | normal =>
      obtain ⟨e', st2, h3, h4⟩ := Wp.ex (c := b) h2
      exact ⟨e', st2, .seq h1 h3, h4⟩
    | exit i => exact ⟨_, st1, .seqx h1 (by simp), h2⟩
    | ret => exact ⟨_, st1, .seqx h1 (by simp), h2⟩
  | .cond c a b, st, Q, ⟨t, hc, h1, h2⟩ => by
    cases t with
    | true =>
      obtain ⟨e, st', h3, h4⟩ := Wp.ex (c := a) (h1 rfl)
      exact ⟨e, st', .cond true hc h3, h4⟩
    | false =>
      obtain ⟨e, st', h3, h4⟩ := Wp.ex (c := b) (h2 rfl)
      exact ⟨e, st', .cond false hc h3, h4⟩
  | .block id b, st, Q, h => by
    obtain ⟨e, st', h1, h2⟩ := Wp.ex (c := b) h
    exact ⟨_, st', .block h1, h2⟩
  | .loop b, st, Q, h => h
  | .exit id, st, Q, h => ⟨_, st, .exit, h⟩
  | .ret, st, Q, h => ⟨_, st, .ret, h⟩
  | .mark a, st, Q, h => by
    obtain ⟨e, st1, h1, s', h2, h3⟩ := Wp.ex (c := a) h
    exact ⟨e, s', .normr h1 h2, h3⟩

theorem Wr.mono : ∀ {ios : List Ins} {st : St} {K K' : St → Prop}, Wr P T ios st K → (∀ s, K s → K' s) → Wr P T ios st K'
  | [], _, _, _, h, hk => hk _ h
  | _ :: _, _, _, _, ⟨st0, st1, hn, h1, h2⟩, hk => ⟨st0, st1, hn, h1, Wr.mono h2 hk⟩

theorem After.mono {K K' : St → Prop} {Q Q' : Xt → St → Prop} (hk : ∀ s, K s → K' s) (hq : ∀ e s, Q e s → Q' e s) : ∀ e s, After K Q e s → After K' Q' e s
  | .normal, s, h => hk s h
  | .exit i, s, h => hq _ s h
  | .ret, s, h => hq _ s h

theorem Wp.mono : ∀ {c : IC} {st : St} {Q Q' : Xt → St → Prop}, Wp P T c st Q → (∀ e s, Q e s → Q' e s) → Wp P T c st Q'
  | .skip, st, Q, Q', h, hq => hq _ _ h
  | .reg ios, st, Q, Q', h, hq => Wr.mono h (hq _)
  | .regd m ios, st, Q, Q', ⟨fin, h0, h⟩, hq => ⟨fin, h0, Wr.mono h (hq _)⟩
  | .seq a b, st, Q, Q', h, hq => Wp.mono (c := a) h (After.mono (fun s hs => Wp.mono (c := b) hs hq) hq)
  | .cond c a b, st, Q, Q', ⟨t, hc, h1, h2⟩, hq => ⟨t, hc, fun ht => Wp.mono (h1 ht) hq, fun ht => Wp.mono (h2 ht) hq⟩
  | .block id b, st, Q, Q', h, hq => Wp.mono (c := b) h fun e s => hq _ s
  | .loop b, st, Q, Q', ⟨e, st', h1, h2⟩, hq => ⟨e, st', h1, hq _ _ h2⟩
  | .exit id, st, Q, Q', h, hq => hq _ _ h
  | .ret, st, Q, Q', h, hq => hq _ _ h
  | .mark a, st, Q, Q', h, hq => Wp.mono (c := a) h fun e s ⟨s', h1, h2⟩ => ⟨s', h1, hq e s' h2⟩

theorem ws {a b : IC} {st : St} {Q : Xt → St → Prop} (h : Wp P T a st (After (fun s => Wp P T b s Q) Q)) : Wp P T (.seq a b) st Q := h
/-- All ways through come to one state, and to something that is so there. -/
theorem wjoinp (p : Prop) (s1 : St) {a b : IC} {st : St} {Q : Xt → St → Prop} (h : Wp P T a st (After (fun s => Norm T s s1 ∧ p) Q)) (k : p → Wp P T b s1 Q) : Wp P T (.seq (.mark a) b) st Q := by
  refine Wp.mono (c := a) h fun e s hs => ?_
  cases e with
  | normal => exact ⟨s1, hs.1, k hs.2⟩
  | exit i => exact ⟨s, .refl, hs⟩
  | ret => exact ⟨s, .refl, hs⟩
/-- All ways through come to one state. -/
theorem wjoin (s1 : St) {a b : IC} {st : St} {Q : Xt → St → Prop} (h : Wp P T a st (After (fun s => Norm T s s1) Q)) (k : Wp P T b s1 Q) : Wp P T (.seq (.mark a) b) st Q := by
  refine Wp.mono (c := a) h fun e s hs => ?_
  cases e with
  | normal => exact ⟨s1, hs, k⟩
  | exit i => exact ⟨s, .refl, hs⟩
  | ret => exact ⟨s, .refl, hs⟩

/-- One round of a loop, then the loop again. -/
theorem loop_round {b : IC} {st : St} {Q : Xt → St → Prop} (h : Wp P T b st (After (fun s => ∃ e st', Ex P T (.loop b.un) s e st' ∧ Q e st') Q)) : ∃ e st', Ex P T (.loop b.un) st e st' ∧ Q e st' := by
  obtain ⟨e, st1, h1, h2⟩ := h.ex
  cases e with
  | normal =>
    obtain ⟨e', st', h3, h4⟩ := h2
    exact ⟨e', st', .loop h1 h3, h4⟩
  | exit i => exact ⟨_, st1, .loopx h1 (by simp), h2⟩
  | ret => exact ⟨_, st1, .loopx h1 (by simp), h2⟩

theorem no_fresh {r : Rows} : ∀ (t : Nat) (row : Row), noRows t = some row → r t = none := fun t row h => by simp [noRows] at h

/-- The state put in order. -/
theorem wn {io : Ins} {r : List Ins} {st st1 : St} {K : St → Prop} (hn : Norm T st st1) (k : Wr P T (io :: r) st1 K) : Wr P T (io :: r) st K := by
  obtain ⟨st0, st', h1, h2, h3⟩ := k
  exact ⟨st0, st', hn.trans h1, h2, h3⟩
/-- An operation that writes nothing. -/
theorem wp {d : Option Nat} {op : IOp} {r : List Ins} {st : St} {K : St → Prop} {p : PV} (h : pop st.s st.r op = some p) (k : Wr P T r (st.put d p) K) : Wr P T (⟨d, op, none⟩ :: r) st K :=
  ⟨_, _, .refl, .run rfl (.pur p noRows (.pop h) no_fresh), k⟩
theorem wpg {d : Option Nat} {op : IOp} {g : Nat × Bool} {r : List Ins} {st : St} {K : St → Prop} {p : PV} (hg : gok st.s (some g) = some true) (h : pop st.s st.r op = some p) (k : Wr P T r (st.put d p) K) : Wr P T (⟨d, op, some g⟩ :: r) st K :=
  ⟨_, _, .refl, .run hg (.pur p noRows (.pop h) no_fresh), k⟩
theorem wps {d : Option Nat} {op : IOp} {g : Nat × Bool} {r : List Ins} {st : St} {K : St → Prop} (hg : gok st.s (some g) = some false) (k : Wr P T r (st.put d .undef) K) : Wr P T (⟨d, op, some g⟩ :: r) st K :=
  ⟨_, _, .refl, .skip hg, k⟩
theorem fresh1 {r : Rows} {t : Nat} {x : Row} (h : r t = none) : ∀ u row, upd noRows t (some x) u = some row → r u = none := by
  intro u row hu
  by_cases hut : u = t
  · rw [hut]; exact h
  · rw [upd_ne _ _ hut] at hu; cases hu

def okEl (sz : Nat) : List PV → Bool
  | [] => true
  | p :: r => Nat.beq p.cells.length sz && (p.cells.all PV.one && (p.free && okEl sz r))
theorem okEl_spec {sz : Nat} : ∀ {l : List PV}, okEl sz l = true → ∀ p ∈ l, p.cells.length = sz ∧ (∀ q ∈ p.cells, q.one = true) ∧ p.free = true
  | [], _, p, hp => by cases hp
  | x :: r, h, p, hp => by
    simp only [okEl, Bool.and_eq_true, List.all_eq_true] at h
    obtain ⟨h1, h2, h3, h4⟩ := h
    rcases List.mem_cons.1 hp with e | e
    · subst e; exact ⟨Nat.eq_of_beq_eq_true h1, h2, h3⟩
    · exact okEl_spec h4 p e

/-- A slice of given elements, in a new row. -/
theorem obsl (t : Nat) {d : Option Nat} {sz : Nat} {xs : List Opd} {st : St} {ps : List PV} (h : evs st.s xs = some ps) (he : okEl sz ps = true) (ht : st.r t = none) :
    OpS P T (.bsl sz xs) d st (St.put ⟨st.s, upd st.r t (some ⟨sz, true, ps⟩)⟩ d (.slr t 0 ps.length)) := by
  rw [← mrg_one]
  exact .pur _ _ (.bsl ps t h (okEl_spec he)) (fresh1 ht)
/-- A variable of its own. -/
theorem obox (t : Nat) {d : Option Nat} {x : Opd} {st : St} {p : PV} (h : x.ev st.s = some p) (h0 : Nat.ble 1 p.cells.length = true) (h1 : p.cells.all PV.one = true) (ht : st.r t = none) :
    OpS P T (.box x) d st (St.put ⟨st.s, upd st.r t (some ⟨p.cells.length, false, [p]⟩)⟩ d (.ptr t 0 0)) := by
  rw [← mrg_one]
  exact .pur _ _ (.box p t h (Nat.le_of_ble_eq_true h0) (List.all_eq_true.1 h1)) (fresh1 ht)
/-- The bytes of a text. -/
theorem ocvs (t : Nat) {d : Option Nat} {x : Opd} {st : St} {b : List UInt8} (h : x.ev st.s = some (.str b)) (ht : st.r t = none) : OpS P T (.cvs x) d st (St.put ⟨st.s, upd st.r t (some ⟨1, true, bytesP b⟩)⟩ d (.slr t 0 b.length)) := by
  rw [← mrg_one]
  exact .pur _ _ (.cvs b t h) (fresh1 ht)
/-- A slice of zeros. -/
theorem omks (t : Nat) {d : Option Nat} {sz bytes : Nat} {z : PV} {x : Opd} {st : St} {k : IntKind} {n : Int} {m : Nat} (h : x.ev st.s = some (.int k n)) (hn : n = (m : Int)) (hb : bytes * m ≤ 281474976710656) (hm : m ≤ 9223372036854775807) (hz : z.free = true) (ht : st.r t = none) :
    OpS P T (.mks sz bytes z x) d st (St.put ⟨st.s, upd st.r t (some ⟨sz, true, List.replicate m z⟩)⟩ d (.slr t 0 m)) := by
  rw [← mrg_one]
  subst hn
  exact .pur _ _ (.mks k m t h hb hm hz) (fresh1 ht)
/-- append. -/
theorem oapp (t' : Nat) {d : Option Nat} {sz bytes : Nat} {x y : Opd} {st : St} {p q : PV} {tok : Option Nat} {xs ys : List PV} (hp : x.ev st.s = some p) (hq : y.ev st.s = some q) (hb : basev st.r sz p = some (tok, xs)) (he : elemsv st.r sz q = some ys)
    (hT : ∀ t, tok = some t → T t = false) (hb0 : Nat.ble 1 bytes = true) (hle : (xs.length + ys.length) * bytes ≤ 140737488355328) (ht' : st.r t' = none) : OpS P T (.app sz bytes x y) d st (St.put (appSt st tok t' ⟨sz, true, xs ++ ys⟩) d (.slr t' 0 (xs.length + ys.length))) :=
  .app p q tok xs ys t' hp hq hb hT he (Nat.le_of_ble_eq_true hb0) hle ht'
theorem oaps (t' : Nat) {d : Option Nat} {x y : Opd} {st : St} {p : PV} {b : List UInt8} {tok : Option Nat} {xs : List PV} (hp : x.ev st.s = some p) (hq : y.ev st.s = some (.str b)) (hb : basev st.r 1 p = some (tok, xs))
    (hT : ∀ t, tok = some t → T t = false) (hle : xs.length + b.length ≤ 140737488355328) (ht' : st.r t' = none) : OpS P T (.aps x y) d st (St.put (appSt st tok t' ⟨1, true, xs ++ bytesP b⟩) d (.slr t' 0 (xs.length + b.length))) :=
  .aps p b tok xs t' hp hq hb hT hle ht'
/-- A write. -/
theorem osto {d : Option Nat} {sz : Nat} {p q : Opd} {st : St} {t i off : Nat} {row : Row} {x y : PV} (hp : p.ev st.s = some (.ptr t i off)) (hq : q.ev st.s = some x) (ht : st.r t = some row) (hi : row.cs[i]? = some y)
    (hx : Nat.beq x.cells.length sz = true) (h0 : Nat.ble 1 sz = true) (h1 : x.cells.all PV.one = true) (hfit : Nat.ble (off + sz) row.sz = true) (hpr : row.pr = true → x.free = true) :
    OpS P T (.store sz p q) d st (St.put ⟨st.s, upd st.r t (some ⟨row.sz, row.pr, row.cs.set i (spl y off x.cells)⟩)⟩ d .undef) :=
  .store t i off row x y hp hq ht hi (Nat.eq_of_beq_eq_true hx) (Nat.le_of_ble_eq_true h0) (List.all_eq_true.1 h1) (Nat.le_of_ble_eq_true hfit) hpr
/-- A call that lends nothing, brings no rows. -/
theorem ocall {d : Option Nat} {f : FuncId} {xs : List Opd} {st : St} {ps qs : List PV} {res : PV} (h : evs st.s xs = some ps) (hq : ps.map (PV.bor noRows st.r) = qs) (hs : Sat P f noRows qs res noRows) (hf : (ps.all PV.free || res.nosl) = true) (ht : res.free = true)
    (htk : PV.tks (fun t => (st.r t).isSome) ps = true) : OpS P T (.call f xs) d st (st.put d res) := by
  refine .pur res noRows (.call ps res noRows h ?_ (hq ▸ hs) ht (fun t row h => by simp [noRows] at h) (PV.tks_mem htk)) no_fresh
  rw [Bool.or_eq_true, List.all_eq_true] at hf
  rcases hf with hf | hf
  · exact .inl fun p hp => hf p hp
  · exact .inr ⟨hf, fun t row h => by simp [noRows] at h⟩
theorem opop {d : Option Nat} {op : IOp} {st : St} {p : PV} (h : pop st.s st.r op = some p) : OpS P T op d st (st.put d p) := .pur p noRows (.pop h) no_fresh

/-- A step; a step under a guard that holds. -/
theorem wo {d : Option Nat} {op : IOp} {r : List Ins} {st st' : St} {K : St → Prop} (h : OpS P T op d st st') (k : Wr P T r st' K) : Wr P T (⟨d, op, none⟩ :: r) st K := ⟨_, _, .refl, .run rfl h, k⟩
theorem wog {d : Option Nat} {op : IOp} {g : Nat × Bool} {r : List Ins} {st st' : St} {K : St → Prop} (hg : gok st.s (some g) = some true) (h : OpS P T op d st st') (k : Wr P T r st' K) : Wr P T (⟨d, op, some g⟩ :: r) st K := ⟨_, _, .refl, .run hg h, k⟩

/-- A guard whose value is known. -/
theorem gy {s : Slots} {g : Nat} {c b : Bool} (h : s g = some (.bool c)) (hc : c = b) : gok s (some (g, b)) = some true := by
  subst hc
  simp [gok, h]
theorem gn {s : Slots} {g : Nat} {c b : Bool} (h : s g = some (.bool c)) (hc : c = !b) : gok s (some (g, b)) = some false := by
  subst hc
  cases b <;> simp [gok, h]
theorem gu {s : Slots} {g : Nat} {b : Bool} (h : s g = some .undef) : gok s (some (g, b)) = some false := by simp [gok, h]
/-- Both ways a guard may be. -/
theorem wsplit (g : Nat) {ios : List Ins} {st : St} {K : St → Prop} {c : Bool} (h : st.s g = some (.bool c)) (h1 : c = true → Wr P T ios st K) (h2 : c = false → Wr P T ios st K) : Wr P T ios st K := by
  cases c with
  | true => exact h1 rfl
  | false => exact h2 rfl
theorem opick1 {d : Option Nat} {x a b : Opd} {st : St} {c : Bool} {v : PV} (h : x.ev st.s = some (.bool c)) (hc : c = true) (ha : a.ev st.s = some v) : OpS P T (.pick x a b) d st (st.put d v) := opop (by simp only [pop, h, hc, cond_true, ha])
theorem opick0 {d : Option Nat} {x a b : Opd} {st : St} {c : Bool} {v : PV} (h : x.ev st.s = some (.bool c)) (hc : c = false) (hb : b.ev st.s = some v) : OpS P T (.pick x a b) d st (st.put d v) := opop (by simp only [pop, h, hc, cond_false, hb])

theorem Wr.app : ∀ {l m : List Ins} {st : St} {K : St → Prop}, Wr P T l st (fun s => Wr P T m s K) → Wr P T (l ++ m) st K
  | [], _, _, _, h => h
  | _ :: _, _, _, _, ⟨s0, s1, hn, hs, h⟩ => ⟨s0, s1, hn, hs, Wr.app h⟩
/-- A region cut where all ways through come to one state. -/
theorem wcut (n : Nat) (s1 : St) {ios : List Ins} {st : St} {K : St → Prop} (h : Wr P T (ios.take n) st (fun s => Norm T s s1)) {io : Ins} {r : List Ins} (hr : ios.drop n = io :: r) (k : Wr P T (io :: r) s1 K) : Wr P T ios st K := by
  rw [← List.take_append_drop n ios, hr]
  exact Wr.app (Wr.mono h fun s hs => wn hs k)
/-- Operations that make at most new rows, in a region that may run in any order. -/
def Wr0 (P : Program) : List Ins → St → (St → Prop) → Prop
  | [], st, K => K st
  | io :: r, st, K => (gok st.s io.guard = some true ∧ ∃ p N, PurS P io.op st.s st.r p N ∧ (∀ t row, N t = some row → st.r t = none) ∧ Wr0 P r (St.put ⟨st.s, mrg N st.r⟩ io.dst p) K) ∨
    (gok st.s io.guard = some false ∧ Wr0 P r (st.put io.dst .undef) K)
theorem Wr0.steps : ∀ {l : List Ins} {st : St} {K : St → Prop}, Wr0 P l st K → ∃ fin, Steps0 P l st fin ∧ K fin
  | [], st, K, h => ⟨st, .nil, h⟩
  | io :: r, st, K, .inl ⟨hg, p, N, hp, hn, h⟩ => by
    obtain ⟨fin, h1, h2⟩ := Wr0.steps h
    exact ⟨fin, .run p N hg hp hn h1, h2⟩
  | io :: r, st, K, .inr ⟨hg, h⟩ => by
    obtain ⟨fin, h1, h2⟩ := Wr0.steps h
    exact ⟨fin, .skip hg h1, h2⟩
theorem wregd {m : Nat} {ios : List Ins} {st : St} {Q : Xt → St → Prop} (h : Wr0 P (ios.take m) st (fun fin => Wr P T (ios.drop m) fin (Q .normal))) : Wp P T (.regd m ios) st Q := h.steps
theorem pur_of {op : IOp} (hE : isE op = false) {d : Option Nat} {st st' : St} (h : OpS P T op d st st') : ∃ p, pop st.s st.r op = some p ∧ st' = st.put d p := by
  cases h with
  | pur p N hp hn => cases hp <;> first | exact ⟨_, by assumption, rfl⟩ | cases hE
  | _ => cases hE
theorem wd {d : Option Nat} {op : IOp} {r : List Ins} {st st' : St} {K : St → Prop} (hE : isE op = false) (h : OpS P T op d st st') (k : Wr0 P r st' K) : Wr0 P (⟨d, op, none⟩ :: r) st K := by
  obtain ⟨p, hp, rfl⟩ := pur_of hE h
  exact .inl ⟨rfl, p, noRows, .pop hp, no_fresh, k⟩
theorem wdg {d : Option Nat} {op : IOp} {g : Nat × Bool} {r : List Ins} {st st' : St} {K : St → Prop} (hg : gok st.s (some g) = some true) (hE : isE op = false) (h : OpS P T op d st st') (k : Wr0 P r st' K) : Wr0 P (⟨d, op, some g⟩ :: r) st K := by
  obtain ⟨p, hp, rfl⟩ := pur_of hE h
  exact .inl ⟨hg, p, noRows, .pop hp, no_fresh, k⟩
theorem wdn {d : Option Nat} {op : IOp} {g : Nat × Bool} {r : List Ins} {st : St} {K : St → Prop} (hg : gok st.s (some g) = some false) (k : Wr0 P r (st.put d .undef) K) : Wr0 P (⟨d, op, some g⟩ :: r) st K := .inr ⟨hg, k⟩
theorem wdcall {d : Option Nat} {f : FuncId} {xs : List Opd} {g : Option (Nat × Bool)} {r : List Ins} {st : St} {K : St → Prop} {ps qs : List PV} {res : PV} (hg : gok st.s g = some true) (h : evs st.s xs = some ps) (hq : ps.map (PV.bor noRows st.r) = qs) (hs : Sat P f noRows qs res noRows)
    (hf : (ps.all PV.free || res.nosl) = true) (ht : res.free = true) (htk : PV.tks (fun t => (st.r t).isSome) ps = true) (k : Wr0 P r (st.put d res) K) : Wr0 P (⟨d, .call f xs, g⟩ :: r) st K := by
  refine .inl ⟨hg, res, noRows, .call ps res noRows h ?_ (hq ▸ hs) ht (fun t row h => by simp [noRows] at h) (PV.tks_mem htk), no_fresh, k⟩
  rw [Bool.or_eq_true, List.all_eq_true] at hf
  rcases hf with hf | hf
  · exact .inl fun p hp => hf p hp
  · exact .inr ⟨hf, fun t row h => by simp [noRows] at h⟩
theorem wcond {c : Opd} {a b : IC} {st : St} {Q : Xt → St → Prop} {t : Bool} (hc : c.ev st.s = some (.bool t)) (h1 : t = true → Wp P T a st Q) (h2 : t = false → Wp P T b st Q) : Wp P T (.cond c a b) st Q := ⟨t, hc, h1, h2⟩

/-- From a walk to a contract. -/
theorem sat_wp (hm : P.follows .mixedOrders = true) {f : FuncId} {fn : Func} {n : Nat} {code : IC} {rv : List IRes} (hf : P.funcs[f]? = some fn) (hc : cfunc P fn = some ⟨n, code.un, rv⟩) {Ri Ro : Rows} {ps rs : List PV} (hlen : Nat.ble ps.length n = true)
    (hri : ∀ t row, Ri t = some row → ∃ row', Ro t = some row' ∧ row'.sz = row.sz ∧ row'.cs.length = row.cs.length)
    (h : Wp P (fun t => (Ri t).isSome) code ⟨s0 n ps, Ri⟩ fun e st' => (∀ id, e ≠ .exit id) ∧ gets st' rv = some rs ∧ PV.tks (fun t => (Ro t).isSome) rs = true ∧
      (∀ t row, Ro t = some row → st'.r t = some row ∧ row.tk (fun t => (Ro t).isSome) = true)) : Sat P f Ri ps (resOf rs) Ro := by
  obtain ⟨e, st', hex, he, hres, hrt, hro⟩ := h.ex
  exact sat_fn hm hf hc (Nat.le_of_ble_eq_true hlen) hex he hres hrt hro hri

/-- .. that lends nothing, gives no rows back. -/
theorem sat_plain (hm : P.follows .mixedOrders = true) {f : FuncId} {fn : Func} {n : Nat} {code : IC} {rv : List IRes} (hf : P.funcs[f]? = some fn) (hc : cfunc P fn = some ⟨n, code.un, rv⟩) {ps rs : List PV} {res : PV} (hr : resOf rs = res) (hlen : Nat.ble ps.length n = true)
    (h : Wp P (fun _ => false) code ⟨s0 n ps, noRows⟩ fun e st' => (∀ id, e ≠ .exit id) ∧ gets st' rv = some rs ∧ PV.tks (fun _ => false) rs = true) : Sat P f noRows ps res noRows := by
  obtain ⟨e, st', hex, he, hres, hrt⟩ := h.ex
  rw [← hr]
  exact sat_fn hm hf hc (Nat.le_of_ble_eq_true hlen) hex he hres hrt (fun t row h => by simp [noRows] at h) (fun t row h => by simp [noRows] at h)
end
end Go.Vd
