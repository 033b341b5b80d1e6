/- A part of the proof: a logic of values, rows and steps. -/
import Derived.Test.YtlopcglohpfonaaGreatDoorA2
import Derived.Laws.Sem
import Derived.Laws.ResultCell
section
set_option linter.unusedVariables false
set_option linter.unusedSimpArgs false
namespace Go.Vd
open Go.RowKit
def KY.opds : KY → List DD
 | .mov x => [x]
 | .pick c a b => [c, a, b]
 | .bin _ x y => [x, y]
 | .beq _ x y => [x, y]
 | .eqs _ _ x y => [x, y]
 | .eqn _ x y => [x, y]
 | .eqi _ x => [x]
 | .un _ x => [x]
 | .cvi _ x => [x]
 | .cvt x => [x]
 | .cvb x => [x]
 | .build _ ps => ps.map (·.2.2)
 | .fld _ _ _ x => [x]
 | .idxs x i => [x, i]
 | .idxa _ _ _ x i => [x, i]
 | .slcs x lo hi => x :: (lo.toList ++ hi.toList)
 | .slcl _ x lo hi => x :: (lo.toList ++ hi.toList)
 | .slap _ x => [x]
 | .ext _ x => [x]
 | .len _ x => [x]
 | .mkf _ caps => caps
 | .mki _ x => [x]
 | .mm _ x xs => x :: xs
 | .nck x => [x]
 | .fda _ x => [x]
 | .ixp _ x i => [x, i]
 | .ixq _ _ x i => [x, i]
 | .load _ _ x => [x]
 | .box _ x => [x]
 | .bsl _ xs => xs
 | .cvs x => [x]
 | .mks _ _ _ x => [x]
 | .store _ a x => [a, x]
 | .app _ _ _ x y => [x, y]
 | .aps _ x y => [x, y]
 | .call _ xs => xs
 | .calv f xs => f :: xs
section
variable {s s' : EY} {R R' : Rows} {f : Nat → Bool}
theorem IW [BA] : ∀ {l : List DD}, (∀ x ∈ l, x.ev s' = x.ev s) → evs s' l = evs s l
 | [], _ => rfl
 | x :: r, h => by simp only [evs, h x (by simp), IW (l := r) fun y hy => h y (by simp [hy])]
theorem VA {x : Option DD} (h : ∀ y ∈ x.toList, y.ev s' = y.ev s) : bT s' x = bT s x := by
 cases x with
 | none => rfl
 | some y => simp only [bT, h y (by simp)]
theorem fF [BA] : ∀ {l : List (Nat × Nat × DD)} {z : List PV}, (∀ x ∈ l, x.2.2.ev s' = x.2.2.ev s) → lay z l s' = lay z l s
 | [], _, _ => rfl
 | (off, sz, x) :: r, z, h => by
  simp only [lay, h (off, sz, x) (by simp)]
  cases x.ev s with
  | none => rfl
  | some p =>
   simp only
   split
   ·exact fF fun y hy => h y (by simp [hy])
   ·rfl
theorem nU {p : PV} (hp : p.tk f = true) (hR : ∀ t, f t = true → R' t = R t) : dV R' p = dV R p := by
 cases p <;> simp only [dV]
 case slr t lo n => rw [hR t hp]
theorem jR {sz : Nat} {lo hi : Option PV} {p : PV} (hp : p.tk f = true) (hR : ∀ t, f t = true → R' t = R t) : TZ R' sz lo hi p = TZ R sz lo hi p := by
 cases p <;> simp only [TZ]
 case slr t o n => rw [hR t hp]
theorem nQ {off : Nat} {p : PV} (hp : p.tk f = true) (hR : ∀ t, f t = true → R' t = R t) : dS R' off p = dS R off p := by
 cases p <;> simp only [dS]
 case ptr t i o => rw [hR t hp]
theorem nE {sz : Nat} {p q : PV} (hp : p.tk f = true) (hR : ∀ t, f t = true → R' t = R t) : bH R' sz p q = bH R sz p q := by
 cases p <;> cases q <;> simp only [bH]
 case slr.int t lo n k i => rw [hR t hp]
theorem nD {n sz : Nat} {p q : PV} (hp : p.tk f = true) (hR : ∀ t, f t = true → R' t = R t) : dR R' n sz p q = dR R n sz p q := by
 cases p <;> cases q <;> simp only [dR]
 case ptr.int t i o k j => rw [hR t hp]
theorem kG {sz : Nat} {ag : Bool} {p : PV} (hp : p.tk f = true) (hR : ∀ t, f t = true → R' t = R t) : U5 R' sz ag p = U5 R sz ag p := by
 cases p <;> simp only [U5]
 case ptr t i o => rw [hR t hp]
theorem eZ [BA] {io : KY} (h : ∀ x ∈ io.opds, x.ev s' = x.ev s) (hf : ∀ x ∈ io.opds, ∀ q, x.ev s = some q → q.tk f = true) (hR : ∀ t, f t = true → R' t = R t) : pop s' R' io = pop s R io := by
 have one : ∀ {g g' : PV → Option PV} (x : DD), x.ev s' = x.ev s → (∀ q, x.ev s = some q → q.tk f = true) → (∀ q, q.tk f = true → g' q = g q) → (x.ev s').bind g' = (x.ev s).bind g := by
  intro g g' x h1 h2 h3
  rw [h1]
  cases hx : x.ev s with
  | none => rfl
  | some q => exact h3 q (h2 q hx)
 have two : ∀ {g g' : PV → PV → Option PV} (x y : DD), x.ev s' = x.ev s → y.ev s' = y.ev s → (∀ q, x.ev s = some q → q.tk f = true) → (∀ q r, q.tk f = true → g' q r = g q r) → OC g' (x.ev s') (y.ev s') = OC g (x.ev s) (y.ev s) := by
  intro g g' x y h1 h2 h3 h4
  rw [h1, h2]
  cases hx : x.ev s with
  | none => rfl
  | some q => cases hy : y.ev s with
   | none => rfl
   | some r => exact h4 q r (h3 q hx)
 cases io <;> simp only [KY.opds] at h hf <;> simp only [pop]
 case mov x => exact h x (by simp)
 case pick c a b => rw [h c (by simp), h a (by simp), h b (by simp)]
 case bin op x y => rw [h x (by simp), h y (by simp)]
 case beq ne x y => rw [h x (by simp), h y (by simp)]
 case eqs ne ks x y => rw [h x (by simp), h y (by simp)]
 case eqn ne x y => rw [h x (by simp), h y (by simp)]
 case eqi ne x => rw [h x (by simp)]
 case un op x => rw [h x (by simp)]
 case cvi k x => rw [h x (by simp)]
 case cvt x => rw [h x (by simp)]
 case cvb x => exact one x (h x (by simp)) (hf x (by simp)) fun q hq => nU hq hR
 case build z ps => rw [fF fun x hx => h x.2.2 (List.mem_map.2 ⟨x, hx, rfl⟩)]
 case fld off sz ag x => rw [h x (by simp)]
 case idxs x i => rw [h x (by simp), h i (by simp)]
 case idxa n sz ag x i => rw [h x (by simp), h i (by simp)]
 case slcs x lo hi => rw [VA fun y hy => h y (by simp [hy]), VA fun y hy => h y (by simp [hy]), h x (by simp)]
 case slcl sz x lo hi =>
  rw [VA fun y hy => h y (by simp [hy]), VA fun y hy => h y (by simp [hy])]
  cases bT s lo with
  | none => rfl
  | some l => cases bT s hi with
   | none => rfl
   | some m => exact one x (h x (by simp)) (hf x (by simp)) fun q hq => jR hq hR
 case slap n x => rw [h x (by simp)]
 case ext i x => rw [h x (by simp)]
 case len st x => rw [h x (by simp)]
 case mkf g caps => rw [IW h]
 case mki t x => rw [h x (by simp)]
 case mm mx x xs => rw [h x (by simp), IW fun y hy => h y (by simp [hy])]
 case nck x => rw [h x (by simp)]
 case fda off x => exact one x (h x (by simp)) (hf x (by simp)) fun q hq => nQ hq hR
 case ixp sz x i => exact two x i (h x (by simp)) (h i (by simp)) (hf x (by simp)) fun q r hq => nE hq hR
 case ixq n sz x i => exact two x i (h x (by simp)) (h i (by simp)) (hf x (by simp)) fun q r hq => nD hq hR
 case load sz ag x => exact one x (h x (by simp)) (hf x (by simp)) fun q hq => kG hq hR
theorem nR [BA] : ∀ {l : List DD} {ps : List PV}, evs s l = some ps → (∀ x ∈ l, ∀ q, x.ev s = some q → q.tk f = true) → ∀ p ∈ ps, p.tk f = true
 | [], ps, h, _ => by simp only [evs, Option.some.injEq] at h; subst h; intro p hp; cases hp
 | x :: r, ps, h, hf => by
  simp only [evs] at h
  cases hx : x.ev s with
  | none => simp [hx] at h
  | some p =>
   cases hr : evs s r with
   | none => simp [hx, hr] at h
   | some q =>
    simp only [hx, hr, Option.some.injEq] at h
    subst h
    intro y hy
    rcases List.mem_cons.1 hy with e | e
    ·rw [e]; exact hf x (by simp) p hx
    ·exact nR hr (fun z hz => hf z (by simp [hz])) y e
theorem PV.tk_mono {f g k : Nat → Bool} {p : PV} (hf : p.tk f = true) (hg : p.tk g = true) (h : ∀ t, f t = true → g t = true → k t = true) : p.tk k = true := by
 revert hf hg
 refine PV.rec (motive_1 := fun p => p.tk f = true → p.tk g = true → p.tk k = true) (motive_2 := fun l => PV.tks f l = true → PV.tks g l = true → PV.tks k l = true) ?_ ?_ ?_ ?_ ?_ ?_ ?_ ?_ ?_ ?_ ?_ ?_ ?_ ?_ ?_ ?_ ?_ ?_ ?_ ?_ p <;> intros <;> simp_all [PV.tk, PV.tks]
theorem sO {p q : PV} (h : dV R p = some q) (hR : ∀ t row, R t = some row → R' t = some row) : dV R' p = some q := by
 cases p <;> simp only [dV] at h ⊢ <;> try exact h
 case slr t lo n =>
  cases hr : R t with
  | none => simp [hr] at h
  | some row => rw [hr] at h; rw [hR t row hr]; exact h
theorem mI {sz : Nat} {lo hi : Option PV} {p q : PV} (h : TZ R sz lo hi p = some q) (hR : ∀ t row, R t = some row → R' t = some row) : TZ R' sz lo hi p = some q := by
 cases p <;> simp only [TZ] at h ⊢ <;> try exact h
 case slr t lo n =>
  cases hr : R t with
  | none => simp [hr] at h
  | some row => rw [hr] at h; rw [hR t row hr]; exact h
theorem sM {off : Nat} {p q : PV} (h : dS R off p = some q) (hR : ∀ t row, R t = some row → R' t = some row) : dS R' off p = some q := by
 cases p <;> simp only [dS] at h ⊢ <;> try exact h
 case ptr t lo n =>
  cases hr : R t with
  | none => simp [hr] at h
  | some row => rw [hr] at h; rw [hR t row hr]; exact h
theorem sF {sz : Nat} {p p' q : PV} (h : bH R sz p p' = some q) (hR : ∀ t row, R t = some row → R' t = some row) : bH R' sz p p' = some q := by
 cases p <;> cases p' <;> simp only [bH] at h ⊢ <;> try exact h
 case slr.int t lo n _ _ =>
  cases hr : R t with
  | none => simp [hr] at h
  | some row => rw [hr] at h; rw [hR t row hr]; exact h
theorem sD {n sz : Nat} {p p' q : PV} (h : dR R n sz p p' = some q) (hR : ∀ t row, R t = some row → R' t = some row) : dR R' n sz p p' = some q := by
 cases p <;> cases p' <;> simp only [dR] at h ⊢ <;> try exact h
 case ptr.int t lo n _ _ =>
  cases hr : R t with
  | none => simp [hr] at h
  | some row => rw [hr] at h; rw [hR t row hr]; exact h
theorem mX {sz : Nat} {ag : Bool} {p q : PV} (h : U5 R sz ag p = some q) (hR : ∀ t row, R t = some row → R' t = some row) : U5 R' sz ag p = some q := by
 cases p <;> simp only [U5] at h ⊢ <;> try exact h
 case ptr t lo n =>
  cases hr : R t with
  | none => simp [hr] at h
  | some row => rw [hr] at h; rw [hR t row hr]; exact h
theorem uW [BA] {io : KY} {p : PV} (h : pop s R io = some p) (hR : ∀ t row, R t = some row → R' t = some row) : pop s R' io = some p := by
 have one : ∀ {g g' : PV → Option PV} {x : Option PV} {p : PV}, x.bind g = some p → (∀ q, g q = some p → g' q = some p) → x.bind g' = some p := by
  intro g g' x p h1 h2
  obtain ⟨q, rfl, h3⟩ := Option.bind_eq_some_iff.1 h1
  exact h2 q h3
 have two : ∀ {g g' : PV → PV → Option PV} {x y : Option PV} {p : PV}, OC g x y = some p → (∀ q r, g q r = some p → g' q r = some p) → OC g' x y = some p := by
  intro g g' x y p h1 h2
  obtain ⟨q, r, rfl, rfl, h3⟩ := MZ h1
  exact h2 q r h3
 cases io <;> simp only [pop] at h ⊢ <;> try exact h
 case cvb x => exact one h fun q hq => sO hq hR
 case slcl sz x lo hi =>
  cases h1 : bT s lo with
  | none => simp [h1] at h
  | some l => cases h2 : bT s hi with
   | none => simp [h1, h2] at h
   | some m => simp only [h1, h2] at h ⊢; exact one h fun q hq => mI hq hR
 case fda off x => exact one h fun q hq => sM hq hR
 case ixp sz x i => exact two h fun q r hq => sF hq hR
 case ixq n sz x i => exact two h fun q r hq => sD hq hR
 case load sz ag x => exact one h fun q hq => mX hq hR
theorem VF [BA] {R R' : Rows} {f : Nat → Bool} {p : PV} (hp : p.tk f = true) (hR : ∀ t, f t = true → R' t = R t) : p.bor AC R' = p.bor AC R := by
 refine PV.map_congr (f := f) (fun t lo n ht => ?_) (fun t i o ht => ?_) p hp
 ·simp only [bs, AC, hR t ht]
 ·simp only [bp, AC, hR t ht]
theorem PP.congr [BA] {P : Program} {io : KY} {p : PV} {N : Rows} (h : PP P io s R p N) (hs : ∀ x ∈ io.opds, x.ev s' = x.ev s) (hf : ∀ x ∈ io.opds, ∀ q, x.ev s = some q → q.tk f = true) (hR : ∀ t, f t = true → R' t = R t) : PP P io s' R' p N := by
 cases h with
 | pop h => exact .pop ((eZ hs hf hR).trans h)
 | box p t hp hpos hone hty => exact .box p t ((hs _ (by simp [KY.opds])).trans hp) hpos hone hty
 | bsl ps t hp hel hty => exact .bsl ps t ((IW hs).trans hp) hel hty
 | bslf ps t hp hel hz hty => exact .bslf ps t ((IW hs).trans hp) hel hz hty
 | cvs b t hp hty => exact .cvs b t ((hs _ (by simp [KY.opds])).trans hp) hty
 | mks k m t hp hb hm hz hty => exact .mks k m t ((hs _ (by simp [KY.opds])).trans hp) hb hm hz hty
 | call ps _ _ hp hfr hsat ht hn htk =>
  have htk' := nR hp hf
  have hm : ps.map (PV.bor AC R') = ps.map (PV.bor AC R) := List.map_congr_left fun q hq => VF (htk' q hq) hR
  exact .call ps p N ((IW hs).trans hp) hfr (hm ▸ hsat) ht hn (fun q hq => PV.tk_mono (htk q hq) (htk' q hq) fun t h1 h2 => by rw [hR t h2]; exact h1)
 | calv g caps ps _ _ hg hok hp hfr hsat ht hn htk =>
  have htk0 := nR hp (fun x hx => hf x (by simp only [KY.opds]; exact List.mem_cons_of_mem _ hx))
  have hcl := hf _ (by simp only [KY.opds]; exact List.mem_cons_self) _ hg
  have htk' : ∀ q ∈ ps ++ caps, q.tk f = true := fun q hq => by
   rcases List.mem_append.1 hq with hq | hq
   ·exact htk0 q hq
   ·exact PV.tks_mem (by simpa [PV.tk] using hcl) q hq
  have hm : (ps ++ caps).map (PV.bor AC R') = (ps ++ caps).map (PV.bor AC R) := List.map_congr_left fun q hq => VF (htk' q hq) hR
  exact .calv g caps ps p N ((hs _ (by simp [KY.opds])).trans hg) hok ((IW fun x hx => hs x (by simp only [KY.opds]; exact List.mem_cons_of_mem _ hx)).trans hp) hfr (hm ▸ hsat) ht hn
   (fun q hq => PV.tk_mono (htk q hq) (htk' q hq) fun t h1 h2 => by rw [hR t h2]; exact h1)
theorem PP.grow [BA] {P : Program} {io : KY} {p : PV} {N : Rows} (h : PP P io s R p N) (hs : ∀ x ∈ io.opds, x.ev s' = x.ev s) (hR : ∀ t row, R t = some row → R' t = some row) : PP P io s' R' p N := by
 have hR2 : ∀ t, (R t).isSome = true → R' t = R t := fun t ht => by
  obtain ⟨r, hr⟩ := Option.isSome_iff_exists.1 ht
  rw [hr, hR t r hr]
 cases h with
 | pop h => exact .pop (uW ((eZ (f := fun _ => true) hs (fun _ _ q _ => PV.tk_true q) fun _ _ => rfl).trans h) hR)
 | box p t hp hpos hone hty => exact .box p t ((hs _ (by simp [KY.opds])).trans hp) hpos hone hty
 | bsl ps t hp hel hty => exact .bsl ps t ((IW hs).trans hp) hel hty
 | bslf ps t hp hel hz hty => exact .bslf ps t ((IW hs).trans hp) hel hz hty
 | cvs b t hp hty => exact .cvs b t ((hs _ (by simp [KY.opds])).trans hp) hty
 | mks k m t hp hb hm hz hty => exact .mks k m t ((hs _ (by simp [KY.opds])).trans hp) hb hm hz hty
 | call ps _ _ hp hfr hsat ht hn htk =>
  have hm : ps.map (PV.bor AC R') = ps.map (PV.bor AC R) := List.map_congr_left fun q hq => VF (htk q hq) hR2
  exact .call ps p N ((IW hs).trans hp) hfr (hm ▸ hsat) ht hn (fun q hq => PV.tk_mono (htk q hq) (htk q hq) fun t h1 _ => by rw [hR2 t h1]; exact h1)
 | calv g caps ps _ _ hg hok hp hfr hsat ht hn htk =>
  have hm : (ps ++ caps).map (PV.bor AC R') = (ps ++ caps).map (PV.bor AC R) := List.map_congr_left fun q hq => VF (htk q hq) hR2
  exact .calv g caps ps p N ((hs _ (by simp [KY.opds])).trans hg) hok ((IW fun x hx => hs x (by simp only [KY.opds]; exact List.mem_cons_of_mem _ hx)).trans hp) hfr (hm ▸ hsat) ht hn
   (fun q hq => PV.tk_mono (htk q hq) (htk q hq) fun t h1 _ => by rw [hR2 t h1]; exact h1)
end
def DD.slot : DD → List Nat
 | .t n => [n]
 | .c _ => []
def DD.plain : DD → Bool
 | .t _ => true
 | .c p => p.free
def xL : Option (Nat × Bool) → List Nat
 | some (g, _) => [g]
 | none => []
def Ins.reads (io : Ins) : List Nat := io.op.opds.flatMap DD.slot ++ xL io.guard
inductive ND [BA] (P : Program) : List Ins → St → St → Prop
 | nil {st : St} : ND P [] st st
 | run {io : Ins} {l : List Ins} {st st2 : St} (p : PV) (N : Rows) (hg : UF st.s io.guard = some true) (h : PP P io.op st.s st.r p N) (hn : ∀ t row, N t = some row → st.r t = none)
   (k : ND P l (St.put ⟨st.s, N7 N st.r⟩ io.dst p) st2) : ND P (io :: l) st st2
 | skip {io : Ins} {l : List Ins} {st st2 : St} (hg : UF st.s io.guard = some false) (k : ND P l (st.put io.dst .undef) st2) : ND P (io :: l) st st2
def ZX (io j : Ins) : Bool :=
 match j.dst with
 | none => true
 | some d => !io.reads.contains d
def Ga (io j : Ins) : Bool :=
 match io.dst, j.dst with
 | some a, some b => !(Nat.beq a b)
 | _, _ => true
def NN : List Ins → Bool
 | [] => true
 | io :: r => ZX io io && r.all (fun j => ZX io j && Ga io j) && NN r
def Fact [BA] (P : Program) (fin : St) (io : Ins) (p : PV) (N : Rows) : Prop :=
 (UF fin.s io.guard = some true ∧ PP P io.op fin.s fin.r p N) ∨ (UF fin.s io.guard = some false ∧ p = .undef ∧ N = AC)
theorem kZ {s s' : EY} {x : DD} (h : ∀ d ∈ x.slot, s' d = s d) : x.ev s' = x.ev s := by
 cases x with
 | t n => exact h n (by simp [DD.slot])
 | c p => rfl
theorem RL [BA] {s s' : EY} {io : Ins} (h : ∀ d ∈ io.reads, s' d = s d) : ∀ x ∈ io.op.opds, x.ev s' = x.ev s :=
 fun x hx => kZ fun d hd => h d (List.mem_append_left _ (List.mem_flatMap.2 ⟨x, hx, hd⟩))
theorem KP {s s' : EY} {io : Ins} (h : ∀ d ∈ io.reads, s' d = s d) : UF s' io.guard = UF s io.guard := by
 have : ∀ d ∈ xL io.guard, s' d = s d := fun d hd => h d (List.mem_append_right _ hd)
 cases hg : io.guard with
 | none => rfl
 | some gb =>
  obtain ⟨g, b⟩ := gb
  rw [hg] at this
  simp only [UF, this g (by simp [xL])]
theorem XK {io j : Ins} (h : ZX io j = true) {d : Nat} (hd : j.dst = some d) : d ∉ io.reads := by
 intro hm
 simp [ZX, hd] at h
 exact h hm
theorem YB {io j : Ins} (h : Ga io j = true) {d : Nat} (hd : io.dst = some d) : j.dst ≠ some d := by
 intro hj
 simp [Ga, hd, hj] at h
theorem p9 {st : St} {dst : Option Nat} {p : PV} {d : Nat} (h : dst ≠ some d) : (st.put dst p).s d = st.s d := by
 cases dst with
 | none => rfl
 | some e => exact upd_ne _ _ fun he => h (by rw [he])
theorem aZ {st : St} {p : PV} {d : Nat} : (st.put (some d) p).s d = some p := upd_same _ _ _
theorem LB {N R : Rows} {t : Nat} {row : Row} (h : N t = some row) : N7 N R t = some row := by simp [N7, h]
theorem FZ {N R : Rows} {t : Nat} (h : N t = none) : N7 N R t = R t := by simp [N7, h]
structure Trace [BA] (P : Program) (l : List Ins) (st fin : St) (tr : List (PV × Rows)) : Prop where
 len : tr.length = l.length
 fact : ∀ (k : Nat) (io : Ins) (p : PV) (N : Rows), l[k]? = some io → tr[k]? = some (p, N) → Fact P fin io p N
 dst : ∀ (k : Nat) (io : Ins) (p : PV) (N : Rows) (d : Nat), l[k]? = some io → tr[k]? = some (p, N) → io.dst = some d → fin.s d = some p
 new : ∀ (k : Nat) (p : PV) (N : Rows) (t : Nat) (row : Row), tr[k]? = some (p, N) → N t = some row → fin.r t = some row ∧ st.r t = none
 sold : ∀ d, (∀ io ∈ l, io.dst ≠ some d) → fin.s d = st.s d
 grow : ∀ t row, st.r t = some row → fin.r t = some row
 rold : ∀ t, (∀ (k : Nat) (p : PV) (N : Rows), tr[k]? = some (p, N) → N t = none) → fin.r t = st.r t
 dis : ∀ (j k : Nat) (p : PV) (N : Rows) (p' : PV) (N' : Rows), j < k → tr[j]? = some (p, N) → tr[k]? = some (p', N') → ∀ t row, N t = some row → N' t = none
theorem Trace.cons [BA] {P : Program} {io : Ins} {l : List Ins} {st fin : St} {tr : List (PV × Rows)} {p : PV} {N : Rows} (hc : NN (io :: l) = true) (h : Trace P l (St.put ⟨st.s, N7 N st.r⟩ io.dst p) fin tr)
  (hn : ∀ t row, N t = some row → st.r t = none) (hf : (UF st.s io.guard = some true ∧ PP P io.op st.s st.r p N) ∨ (UF st.s io.guard = some false ∧ p = .undef ∧ N = AC)) : Trace P (io :: l) st fin ((p, N) :: tr) := by
 simp only [NN, Bool.and_eq_true, List.all_eq_true] at hc
 obtain ⟨⟨c1, c2⟩, c3⟩ := hc
 have hrd : ∀ d ∈ io.reads, fin.s d = st.s d := by
  intro d hd
  rw [h.sold d fun j hj e => XK (c2 j hj).1 e hd, p9]
  exact fun e => XK c1 e hd
 have hgr : ∀ t row, st.r t = some row → fin.r t = some row := by
  intro t row ht
  refine h.grow t row ?_
  rw [St.put_r]
  cases hN : N t with
  | none => simpa [FZ hN] using ht
  | some r => rw [hn t r hN] at ht; cases ht
 refine ⟨by simp [h.len], fun k jo q M hk ht => ?_, fun k jo q M d hk ht hd => ?_, fun k q M t row ht hM => ?_, fun d hd => ?_, hgr, fun t ht => ?_, fun j k q M q' M' hjk hj hk t row hM => ?_⟩
 ·cases k with
  | zero =>
   simp only [List.getElem?_cons_zero, Option.some.injEq, Prod.mk.injEq] at hk ht
   obtain ⟨rfl, rfl⟩ := ht
   subst hk
   rcases hf with ⟨h1, h2⟩ | ⟨h1, h2, h3⟩
   ·exact .inl ⟨(KP hrd).trans h1, h2.grow (RL hrd) hgr⟩
   ·exact .inr ⟨(KP hrd).trans h1, h2, h3⟩
  | succ k => exact h.fact k jo q M (by simpa using hk) (by simpa using ht)
 ·cases k with
  | zero =>
   simp only [List.getElem?_cons_zero, Option.some.injEq, Prod.mk.injEq] at hk ht
   obtain ⟨rfl, rfl⟩ := ht
   subst hk
   rw [h.sold d fun j hj => YB (c2 j hj).2 hd, hd]
   exact aZ
  | succ k => exact h.dst k jo q M d (by simpa using hk) (by simpa using ht) hd
 ·cases k with
  | zero =>
   simp only [List.getElem?_cons_zero, Option.some.injEq, Prod.mk.injEq] at ht
   obtain ⟨rfl, rfl⟩ := ht
   refine ⟨h.grow t row ?_, hn t row hM⟩
   rw [St.put_r]
   exact LB hM
  | succ k =>
   obtain ⟨h1, h2⟩ := h.new k q M t row (by simpa using ht) hM
   refine ⟨h1, ?_⟩
   rw [St.put_r] at h2
   have h2 : N7 N st.r t = none := h2
   cases hN : N t with
   | none => simpa [FZ hN] using h2
   | some r => rw [LB hN] at h2; cases h2
 ·rw [h.sold d fun j hj => hd j (List.mem_cons_of_mem _ hj)]
  exact p9 (hd io List.mem_cons_self)
 ·have h1 := h.rold t fun k q M hk => ht (k + 1) q M (by simpa using hk)
  rw [h1, St.put_r]
  exact FZ (ht 0 p N rfl)
 ·cases k with
  | zero => omega
  | succ k =>
   cases j with
   | zero =>
    simp only [List.getElem?_cons_zero, Option.some.injEq, Prod.mk.injEq] at hj
    obtain ⟨rfl, rfl⟩ := hj
    cases hM' : M' t with
    | none => rfl
    | some r =>
     have := (h.new k q' M' t r (by simpa using hk) hM').2
     rw [St.put_r] at this
     have this : N7 N st.r t = none := this
     rw [LB hM] at this
     cases this
   | succ j => exact h.dis j k q M q' M' (by omega) (by simpa using hj) (by simpa using hk) t row hM
theorem ND.trace [BA] {P : Program} {l : List Ins} {st fin : St} (h : ND P l st fin) (hc : NN l = true) : ∃ tr, Trace P l st fin tr := by
 induction h with
 | nil => exact ⟨[], rfl, by simp, by simp, by simp, fun _ _ => rfl, fun _ _ h => h, fun _ _ => rfl, by simp⟩
 | run p N hg hp hn k ih =>
  have hc' := hc
  simp only [NN, Bool.and_eq_true] at hc'
  obtain ⟨tr, ht⟩ := ih hc'.2
  exact ⟨_, ht.cons hc hn (.inl ⟨hg, hp⟩)⟩
 | skip hg k ih =>
  have hc' := hc
  simp only [NN, Bool.and_eq_true] at hc'
  obtain ⟨tr, ht⟩ := ih hc'.2
  exact ⟨_, Trace.cons (N := AC) hc ht (fun t row h => by simp [AC] at h) (.inr ⟨hg, rfl, rfl⟩)⟩
structure tK (l : List Ins) (tr : List (PV × Rows)) (st : St) (S : Nat → Bool) (cur : St) : Prop where
 s1 : ∀ (k : Nat) (io : Ins) (p : PV) (N : Rows) (d : Nat), l[k]? = some io → tr[k]? = some (p, N) → S k = true → io.dst = some d → cur.s d = some p
 s2 : ∀ d, (∀ (k : Nat) (io : Ins), l[k]? = some io → S k = true → io.dst ≠ some d) → cur.s d = st.s d
 r1 : ∀ (k : Nat) (p : PV) (N : Rows) (t : Nat) (row : Row), tr[k]? = some (p, N) → S k = true → N t = some row → cur.r t = some row
 r2 : ∀ t, (∀ (k : Nat) (p : PV) (N : Rows), tr[k]? = some (p, N) → S k = true → N t = none) → cur.r t = st.r t
section
variable {P : Program} {l : List Ins} {tr : List (PV × Rows)} {st fin cur : St} {S : Nat → Bool}
theorem Trace.get [BA] (h : Trace P l st fin tr) {k : Nat} {io : Ins} (hk : l[k]? = some io) : ∃ p N, tr[k]? = some (p, N) := by
 obtain ⟨hlt, _⟩ := List.getElem?_eq_some_iff.1 hk
 have hlt' : k < tr.length := by rw [h.len]; exact hlt
 exact ⟨(tr[k]'hlt').1, (tr[k]'hlt').2, List.getElem?_eq_getElem hlt'⟩
theorem tK.sub [BA] (h : tK l tr st S cur) (ht : Trace P l st fin tr) {t : Nat} {row : Row} (hr : cur.r t = some row) : fin.r t = some row := by
 by_cases he : ∃ (k : Nat) (p : PV) (N : Rows) (r : Row), tr[k]? = some (p, N) ∧ S k = true ∧ N t = some r
 ·obtain ⟨k, p, N, r, h1, h2, h3⟩ := he
  have := h.r1 k p N t r h1 h2 h3
  rw [hr] at this
  cases this
  exact (ht.new k p N t row h1 h3).1
 ·rw [h.r2 t fun k p N h1 h2 => by
   cases hN : N t with
   | none => rfl
   | some r => exact absurd ⟨k, p, N, r, h1, h2, hN⟩ he] at hr
  exact ht.grow t row hr
theorem tK.slot [BA] (h : tK l tr st S cur) (ht : Trace P l st fin tr) {d : Nat} (hd : ∀ (k : Nat) (io : Ins), l[k]? = some io → io.dst = some d → S k = true) : cur.s d = fin.s d := by
 by_cases he : ∃ (k : Nat) (io : Ins), l[k]? = some io ∧ io.dst = some d
 ·obtain ⟨k, io, h1, h2⟩ := he
  obtain ⟨p, N, h3⟩ := ht.get h1
  rw [h.s1 k io p N d h1 h3 (hd k io h1 h2) h2, ht.dst k io p N d h1 h3 h2]
 ·rw [h.s2 d fun k io h1 _ h2 => he ⟨k, io, h1, h2⟩, ht.sold d fun io hio h2 => ?_]
  obtain ⟨k, hk⟩ := List.getElem?_of_mem hio
  exact he ⟨k, io, hk, h2⟩
theorem tK.at_end [BA] (h : tK l tr st S cur) (ht : Trace P l st fin tr) (hS : ∀ k, k < l.length → S k = true) : cur = fin := by
 have hs : cur.s = fin.s := funext fun d => h.slot ht fun k io hk _ => hS k (List.getElem?_eq_some_iff.1 hk).1
 have hr : cur.r = fin.r := by
  funext t
  cases hf : cur.r t with
  | some row => exact (h.sub ht hf).symm
  | none =>
   symm
   have hnone : ∀ (k : Nat) (p : PV) (N : Rows), tr[k]? = some (p, N) → N t = none := by
    intro k p N hk
    have hlt := (List.getElem?_eq_some_iff.1 hk).1
    rw [ht.len] at hlt
    cases hN : N t with
    | none => rfl
    | some r => rw [h.r1 k p N t r hk (hS k hlt) hN] at hf; cases hf
   rw [ht.rold t hnone, ← h.r2 t fun k p N hk _ => hnone k p N hk, hf]
 cases cur; cases fin; simp only at hs hr; rw [hs, hr]
theorem tK.step [BA] (h : tK l tr st S cur) (ht : Trace P l st fin tr) (hc : NN l = true) {i : Nat} {io : Ins} {p : PV} {N : Rows} (hi : l[i]? = some io) (hti : tr[i]? = some (p, N)) (hSi : S i = false) {S' : Nat → Bool}
  (hS' : ∀ k, S' k = true ↔ k = i ∨ S k = true) (hsep : ∀ (k : Nat) (jo : Ins) (d : Nat), l[k]? = some jo → k ≠ i → jo.dst = some d → io.dst ≠ some d) : (∀ t row, N t = some row → cur.r t = none) ∧ tK l tr st S' (St.put ⟨cur.s, N7 N cur.r⟩ io.dst p) := by
 have hdis : ∀ (k : Nat) (q : PV) (M : Rows), tr[k]? = some (q, M) → k ≠ i → ∀ t row, N t = some row → M t = none := by
  intro k q M hk hne t row hN
  rcases Nat.lt_or_gt_of_ne hne with hlt | hlt
  ·cases hM : M t with
   | none => rfl
   | some r => rw [ht.dis k i q M p N hlt hk hti t r hM] at hN; cases hN
  ·exact ht.dis i k p N q M hlt hti hk t row hN
 have hfresh : ∀ t row, N t = some row → cur.r t = none := by
  intro t row hN
  rw [h.r2 t fun k q M hk hSk => hdis k q M hk (fun e => by rw [e, hSi] at hSk; cases hSk) t row hN]
  exact (ht.new i p N t row hti hN).2
 refine ⟨hfresh, fun k jo q M d hk htk hSk hd => ?_, fun d hd => ?_, fun k q M t row htk hSk hM => ?_, fun t hN => ?_⟩
 ·by_cases hki : k = i
  ·subst hki
   rw [hi] at hk; cases hk
   rw [hti] at htk; cases htk
   rw [hd]
   exact aZ
  ·rw [p9 (hsep k jo d hk hki hd)]
   exact h.s1 k jo q M d hk htk (((hS' k).1 hSk).resolve_left hki) hd
 ·rw [p9 (hd i io hi ((hS' i).2 (.inl rfl)))]
  exact h.s2 d fun k jo hk hSk => hd k jo hk ((hS' k).2 (.inr hSk))
 ·rw [St.put_r]
  by_cases hki : k = i
  ·subst hki
   rw [hti] at htk; cases htk
   exact LB hM
  ·show N7 N cur.r t = some row
   rw [FZ]
   ·exact h.r1 k q M t row htk (((hS' k).1 hSk).resolve_left hki) hM
   ·cases hN : N t with
    | none => rfl
    | some r => rw [hdis k q M htk hki t r hN] at hM; cases hM
 ·rw [St.put_r]
  show N7 N cur.r t = st.r t
  rw [FZ (hN i p N hti ((hS' i).2 (.inl rfl)))]
  exact h.r2 t fun k q M hk hSk => hN k q M hk ((hS' k).2 (.inr hSk))
end
theorem PV.tk_free [BA] {p : PV} (h : p.free = true) (f : Nat → Bool) : p.tk f = true := PV.tk_mono h h fun _ h1 _ => by cases h1
theorem TG [BA] : ∀ {l : List Ins}, NN l = true → ∀ (k i : Nat) (jo io : Ins) (d : Nat), l[k]? = some jo → l[i]? = some io → k ≠ i → jo.dst = some d → io.dst ≠ some d
 | [], _, k, i, jo, io, d, hk, _, _, _ => by simp at hk
 | x :: r, hc, k, i, jo, io, d, hk, hi, hne, hd => by
  simp only [NN, Bool.and_eq_true, List.all_eq_true] at hc
  obtain ⟨⟨_, c2⟩, c3⟩ := hc
  cases k with
  | zero =>
   cases i with
   | zero => exact absurd rfl hne
   | succ i =>
    simp only [List.getElem?_cons_zero, Option.some.injEq, List.getElem?_cons_succ] at hk hi
    subst hk
    exact YB (c2 io (List.mem_of_getElem? hi)).2 hd
  | succ k =>
   cases i with
   | zero =>
    simp only [List.getElem?_cons_zero, Option.some.injEq, List.getElem?_cons_succ] at hk hi
    subst hi
    intro e
    exact YB (c2 jo (List.mem_of_getElem? hk)).2 e hd
   | succ i => exact TG c3 k i jo io d (by simpa using hk) (by simpa using hi) (by omega) hd
def WM (o : Oper) : List Nat := (o.after.toList.filter fun e => Region.binds .any e).map (·.on)
def GA (ops : Array Oper) (k : Nat) : List Nat := match ops[k]? with
 | some o => WM o
 | none => []
def Gg (acc : List Nat) (ds : List Nat) : Nat := ds.foldl (fun m j => m ||| (1 <<< j) ||| acc.getD j 0) 0
def masks (l : List Oper) : List Nat := l.foldl (fun acc o => acc ++ [Gg acc (WM o)]) []
def KL (ms : List Nat) (k x : Nat) : Bool := (ms.getD k 0).testBit x
structure DW (ops : Array Oper) (all : List Ins) (m : Nat) (ms : List Nat) : Prop where
 low : ∀ k j, j ∈ GA ops k → j < k
 clo : ∀ k x, k < ops.size → x < ops.size → KL ms k x = true → x ∈ GA ops k ∨ ∃ j ∈ GA ops k, KL ms j x = true
 sc : NN (all.take m) = true
 con : ∀ io ∈ all.take m, ∀ x ∈ io.op.opds, x.plain = true
 dep : ∀ i k io jo d, i < m → k < m → all[i]? = some io → all[k]? = some jo → jo.dst = some d → d ∈ io.reads → KL ms i k = true
 suf : ∀ i j, m ≤ i → i < ops.size → j < i → KL ms i j = true
def qX (all : List Ins) (ms : List Nat) (i k : Nat) : Bool :=
 match all[i]?, all[k]? with
 | some io, some jo => match jo.dst with
  | some d => !io.reads.contains d || KL ms i k
  | none => true
 | _, _ => true
def bU (ops : Array Oper) (all : List Ins) (m : Nat) : Bool :=
 let ms := masks ops.toList
 ((List.range ops.size).all fun k => (GA ops k).all fun j => decide (j < k)) &&
 ((List.range ops.size).all fun k => (List.range ops.size).all fun x => !KL ms k x || (GA ops k).contains x || (GA ops k).any fun j => KL ms j x) &&
 NN (all.take m) && ((all.take m).all fun io => io.op.opds.all DD.plain) &&
 ((List.range m).all fun i => (List.range m).all fun k => qX all ms i k) &&
 ((List.range ops.size).all fun i => decide (i < m) || (List.range i).all fun j => KL ms i j)
theorem nS {ops : Array Oper} {all : List Ins} {m : Nat} (h : bU ops all m = true) : DW ops all m (masks ops.toList) := by
 simp only [bU, Bool.and_eq_true, List.all_eq_true, List.mem_range, decide_eq_true_eq] at h
 obtain ⟨⟨⟨⟨⟨h1, h2⟩, h3⟩, h4⟩, h5⟩, h6⟩ := h
 refine ⟨fun k j hj => ?_, fun k x hk hx hb => ?_, h3, fun io hio x hx => h4 io hio x hx, fun i k io jo d hi hk hio hjo hd hr => ?_, fun i j hm hi hj => ?_⟩
 ·rcases Nat.lt_or_ge k ops.size with hk | hk
  ·exact h1 k hk j hj
  ·rw [GA, Array.getElem?_eq_none hk] at hj; cases hj
 ·have := h2 k hk x hx
  rw [hb] at this
  simp only [Bool.not_true, Bool.false_or, Bool.or_eq_true, List.contains_iff_mem, List.any_eq_true] at this
  exact this
 ·have := h5 i hi k hk
  simp only [qX, hio, hjo, hd, Bool.or_eq_true, Bool.not_eq_true'] at this
  rcases this with h | h
  ·have hc : io.reads.contains d = true := by simpa using hr
   rw [hc] at h; cases h
  ·exact h
 ·have := h6 i hi
  rw [decide_eq_false (by omega), Bool.false_or] at this
  exact List.all_eq_true.1 this j (List.mem_range.2 hj)
def mE (listed : Array Bool) (n : Nat) : Nat := ((List.range n).filter fun i => !listed.getD i true).length
theorem fQ [BA] {p q : Nat → Bool} (h : ∀ x, q x = true → p x = true) : ∀ l : List Nat, (l.filter q).length ≤ (l.filter p).length
 | [] => Nat.le_refl _
 | x :: r => by
  have ih := fQ h r
  simp only [List.filter_cons]
  cases hq : q x with
  | true => rw [h x hq]; simpa using ih
  | false => cases p x <;> simp <;> omega
theorem filter_lt [BA] {p q : Nat → Bool} (h : ∀ x, q x = true → p x = true) : ∀ (l : List Nat) (x : Nat), x ∈ l → p x = true → q x = false → (l.filter q).length < (l.filter p).length
 | [], x, hx, _, _ => by cases hx
 | y :: r, x, hx, hp, hq => by
  have hle := fQ h r
  simp only [List.filter_cons]
  rcases List.mem_cons.1 hx with e | e
  ·subst e; rw [hp, hq]; simp; omega
  ·have ih := filter_lt h r x e hp hq
   cases hqy : q y with
   | true => rw [h y hqy]; simpa using ih
   | false => cases p y <;> simp <;> omega
theorem gJ [BA] {w0 w : World} {O : Nat → Prop} {L : MN} {n : Nat} {μ : Mu} {P : Program} {st st' : St} {a : Act} (hs : Steps P L.T [] st st') (h : BJ w0 O L n μ st a w) : ∃ μ', BJ w0 O L n μ' st' a w := by
 generalize hl : ([] : List Ins) = l at hs
 induction hs generalizing μ with
 | nil => exact ⟨μ, h⟩
 | cons => cases hl
 | norm hn _ ih =>
  obtain ⟨μ', h'⟩ := hn _ _ _ _ _ _ _ rfl h
  exact ih h' hl
theorem oM [BA] {w0 w : World} {O : Nat → Prop} {L : MN} {n : Nat} {μ : Mu} {P : Program} {io : Ins} {l : List Ins} {st st' : St} {a : Act} (hs : Steps P L.T (io :: l) st st') (h : BJ w0 O L n μ st a w) :
  ∃ μ' s1 s2, BJ w0 O L n μ' s1 a w ∧ Step P L.T io s1 s2 ∧ Steps P L.T l s2 st' := by
 generalize hl : io :: l = k at hs
 induction hs generalizing μ with
 | nil => cases hl
 | cons h1 h2 => cases hl; exact ⟨μ, _, _, h, h1, h2⟩
 | norm hn _ ih =>
  obtain ⟨μ', h'⟩ := hn _ _ _ _ _ _ _ rfl h
  exact ih h' hl
section
variable {w0 w : World} {O : Nat → Prop} {L : MN} {n : Nat} {μ : Mu} {P : Program} {st st' fin : St} {a : Act} {ops : Array Oper} {all : List Ins} {m : Nat}
inductive Inv [BA] (P : Program) (w0 : World) (O : Nat → Prop) (L : MN) (n : Nat) (all : List Ins) (m : Nat) (st st' : St) (tr : List (PV × Rows)) (listed : Array Bool) (a : Act) (w : World) : Prop
 | pure (μ : Mu) (cur : St) (h : BJ w0 O L n μ cur a w) (hc : tK (all.take m) tr st (fun k => listed.getD k false) cur) (hm : ∀ i, m ≤ i → listed.getD i false = false)
 | tail (k : Nat) (μ : Mu) (cur : St) (h : BJ w0 O L n μ cur a w) (hk : m ≤ k) (h1 : ∀ i, i < k → listed.getD i false = true) (h2 : ∀ i, k ≤ i → listed.getD i false = false) (hs : Steps P L.T (all.drop k) cur st')
theorem dE (hlow : ∀ k j, j ∈ GA ops k → j < k) {listed : Array Bool} (hsz : listed.size = ops.size) (hr : Region.ready .any ops listed = []) : ∀ i, i < ops.size → listed.getD i false = true := by
 intro i
 induction i using Nat.strongRecOn with
 | _ i ih =>
  intro hi
  cases hl : listed.getD i false with
  | true => rfl
  | false =>
   exfalso
   have hm : i ∈ Region.ready .any ops listed := by
    rw [mem_ready]
    refine ⟨?_, ops[i], Array.getElem?_eq_getElem hi, fun e he hb => ih e.on ?_ ?_⟩
    ·have hlt : i < listed.size := by omega
     simpa [Array.getD, hlt] using hl
    ·refine hlow i e.on ?_
     simp only [GA, Array.getElem?_eq_getElem hi, WM, List.mem_map, List.mem_filter]
     exact ⟨e, ⟨by simpa using he, hb⟩, rfl⟩
    ·have : e.on < i := by
      refine hlow i e.on ?_
      simp only [GA, Array.getElem?_eq_getElem hi, WM, List.mem_map, List.mem_filter]
      exact ⟨e, ⟨by simpa using he, hb⟩, rfl⟩
     omega
   rw [hr] at hm
   cases hm
theorem xZ [BA] (hc : WR P n ops ops.toList = some all) (hw : bU ops all m = true) (hmle : m ≤ ops.size) (h0 : ND P (all.take m) st fin) (h1 : Steps P L.T (all.drop m) fin st') (h : BJ w0 O L n μ st a w) {Q : Exit → Act → World → Prop}
  (hQ : ∀ μ' a' w', BJ w0 O L n μ' st' a' w' → Q .normal a' w') : wpAny P .any ops Q ops.size (Array.replicate ops.size false) a w := by
 obtain ⟨hlen, hget⟩ := QA hc
 have hlen' : all.length = ops.size := by rw [← hlen]; simp
 have dw := nS hw
 obtain ⟨tr, ht⟩ := h0.trace dw.sc
 generalize hms : masks ops.toList = ms at dw
 have htake : ∀ {k : Nat} {io : Ins}, (all.take m)[k]? = some io → k < m ∧ all[k]? = some io := by
  intro k io hk
  rw [List.getElem?_take] at hk
  split at hk
  ·exact ⟨by assumption, hk⟩
  ·cases hk
 have hfull : ∀ {k : Nat}, k < ops.size → ∃ io o, all[k]? = some io ∧ ops[k]? = some o ∧ Ef P n ops o = some io := by
  intro k hk
  have h1 : all[k]? = some (all[k]'(by omega)) := List.getElem?_eq_getElem (by omega)
  have h2 : ops[k]? = some ops[k] := Array.getElem?_eq_getElem hk
  exact ⟨_, _, h1, h2, hget k _ _ (by rw [Array.getElem?_toList]; exact h2) h1⟩
 have hend : ∀ (listed : Array Bool) (a : Act) (w : World), listed.size = ops.size → (∀ i, i < ops.size → listed.getD i false = true) → Inv P w0 O L n all m st st' tr listed a w → Q .normal a w := by
  intro listed a w hsz hl hinv
  cases hinv with
  | pure μ cur h hcur hm' =>
   have : m = ops.size := by
    rcases Nat.lt_or_ge m ops.size with h' | h'
    ·have := hl m h'; rw [hm' m (Nat.le_refl _)] at this; cases this
    ·omega
   have hcf : cur = fin := hcur.at_end ht fun k hk => hl k (by simp at hk; omega)
   subst hcf
   rw [List.drop_of_length_le (by omega)] at h1
   obtain ⟨μ', h'⟩ := gJ h1 h
   exact hQ μ' a w h'
  | tail k μ cur h hk h1' h2' hs =>
   rw [List.drop_of_length_le (by
    rcases Nat.lt_or_ge k ops.size with h' | h'
    ·have := hl k h'; rw [h2' k (Nat.le_refl _)] at this; cases this
    ·omega)] at hs
   obtain ⟨μ', h'⟩ := gJ hs h
   exact hQ μ' a w h'
 have key : ∀ (fuel : Nat) (listed : Array Bool) (a : Act) (w : World), mE listed ops.size ≤ fuel → listed.size = ops.size → (∀ k x, k < ops.size → x < ops.size → listed.getD k false = true → KL ms k x = true → listed.getD x false = true) →
   Inv P w0 O L n all m st st' tr listed a w → wpAny P .any ops Q fuel listed a w := by
  intro fuel
  induction fuel with
  | zero =>
   intro listed a w hu hsz hclo hinv
   have hall : ∀ i, i < ops.size → listed.getD i false = true := by
    intro i hi
    cases hl : listed.getD i false with
    | true => rfl
    | false =>
     have : i ∈ (List.range ops.size).filter fun i => !listed.getD i true := by
      rw [List.mem_filter, List.mem_range]
      have hlt : i < listed.size := by omega
      refine ⟨hi, ?_⟩
      simp [Array.getD, hlt] at hl ⊢
      exact hl
     unfold mE at hu
     rw [List.length_eq_zero_iff.1 (Nat.le_zero.1 hu)] at this
     cases this
   refine ⟨?_, hend listed a w hsz hall hinv⟩
   rw [List.eq_nil_iff_forall_not_mem]
   intro i hi
   rw [mem_ready] at hi
   obtain ⟨h1, o, ho, _⟩ := hi
   have hlt : i < ops.size := (Array.getElem?_eq_some_iff.1 ho).1
   have := hall i hlt
   have hlt' : i < listed.size := by omega
   simp [Array.getD, hlt'] at h1 this
   rw [h1] at this
   cases this
  | succ fuel ih =>
   intro listed a w hu hsz hclo hinv
   refine ⟨fun hr => hend listed a w hsz (dE dw.low hsz hr) hinv, fun i hi => ?_⟩
   rw [mem_ready] at hi
   obtain ⟨hun, o, ho, hed⟩ := hi
   have hi : i < ops.size := (Array.getElem?_eq_some_iff.1 ho).1
   have hlt : i < listed.size := by omega
   have hdir : ∀ j ∈ GA ops i, listed.getD j false = true := by
    intro j hj
    simp only [GA, ho, WM, List.mem_map, List.mem_filter] at hj
    obtain ⟨e, ⟨he, hb⟩, rfl⟩ := hj
    exact hed e (by simpa using he) hb
   have hpre : ∀ x, x < ops.size → KL ms i x = true → listed.getD x false = true := by
    intro x hx hb
    rcases dw.clo i x hi hx hb with h | ⟨j, hj, hb'⟩
    ·exact hdir x h
    ·exact hclo j x (Nat.lt_trans (dw.low i j hj) hi) hx (hdir j hj) hb'
   have hgn : ∀ j, (listed.setIfInBounds i true).getD j false = true ↔ j = i ∨ listed.getD j false = true := by
    intro j
    by_cases hji : j = i
    ·subst hji; simp [Array.getD, hlt]
    ·rw [getD_set_ne false (Ne.symm hji)]; simp [hji]
   have hunf : listed.getD i false = false := by simpa [Array.getD, hlt] using hun
   have hu' : mE (listed.setIfInBounds i true) ops.size ≤ fuel := by
    have : mE (listed.setIfInBounds i true) ops.size < mE listed ops.size := by
     refine filter_lt (fun x hx => ?_) _ i (List.mem_range.2 hi) (by rw [hun]; rfl) (by simp [Array.getD, hlt])
     by_cases hxi : i = x
     ·subst hxi; simp [Array.getD, hlt] at hx
     ·rwa [getD_set_ne true hxi] at hx
    omega
   have hclo' : ∀ k x, k < ops.size → x < ops.size → (listed.setIfInBounds i true).getD k false = true → KL ms k x = true → (listed.setIfInBounds i true).getD x false = true := by
    intro k x hk hx hlk hb
    rw [hgn] at hlk ⊢
    rcases hlk with e | hlk
    ·subst e; exact .inr (hpre x hx hb)
    ·exact .inr (hclo k x hk hx hlk hb)
   have hgo : ∀ {μ : Mu} {cur : St} {a : Act} {w : World} {io : Ins} {s1 s2 : St}, BJ w0 O L n μ s1 a w → all[i]? = some io → Step P L.T io s1 s2 → (∀ μ' a' w', BJ w0 O L n μ' s2 a' w' → Inv P w0 O L n all m st st' tr (listed.setIfInBounds i true) a' w') →
     wpOp P ops Q i (wpAny P .any ops Q fuel (listed.setIfInBounds i true)) a w := by
    intro μ cur a w io s1 s2 hst hio hstep hK
    refine Step.goes ho (hget i o io (by rw [Array.getElem?_toList]; exact ho) hio) hst hstep fun μ' a' w' h' => ?_
    exact ih _ a' w' hu' (by simpa using hsz) hclo' (hK μ' a' w' h')
   obtain ⟨io, o', hio, ho', _⟩ := hfull hi
   have htail : ∀ {μ : Mu} {cur : St}, BJ w0 O L n μ cur a w → m ≤ i → (∀ j, i ≤ j → listed.getD j false = false) → Steps P L.T (all.drop i) cur st' → wpOp P ops Q i (wpAny P .any ops Q fuel (listed.setIfInBounds i true)) a w := by
    intro μ cur hst hmi hge hs
    have hdrop : all.drop i = io :: all.drop (i + 1) := by
     obtain ⟨hlt2, he⟩ := List.getElem?_eq_some_iff.1 hio
     rw [← he]
     exact List.drop_eq_getElem_cons hlt2
    rw [hdrop] at hs
    obtain ⟨μ', s1, s2, hs1, hstep, hrest⟩ := oM hs hst
    refine hgo (cur := cur) hs1 hio hstep fun μ'' a' w' h' => .tail (i + 1) μ'' s2 h' (by omega) (fun j hj => ?_) (fun j hj => ?_) hrest
    ·rw [hgn]
     by_cases hji : j = i
     ·exact .inl hji
     ·exact .inr (hpre j (by omega) (dw.suf i j hmi hi (by omega)))
    ·rw [getD_set_ne false (by omega)]
     exact hge j (by omega)
   cases hinv with
   | pure μ cur hst hcur hm' =>
    by_cases hmi : m ≤ i
    ·have him : i = m := by
      rcases Nat.lt_or_ge m i with h' | h'
      ·have := hpre m (by omega) (dw.suf i m hmi hi h')
       rw [hm' m (Nat.le_refl _)] at this; cases this
      ·omega
     subst him
     have hcf : cur = fin := hcur.at_end ht fun k hk => hpre k (by simp at hk; omega) (dw.suf i k hmi hi (by simp at hk; omega))
     subst hcf
     exact htail hst hmi (fun j hj => hm' j hj) h1
    ·have him : i < m := by omega
     have htk : (all.take m)[i]? = some io := by rw [List.getElem?_take, if_pos him]; exact hio
     obtain ⟨p, N, hpN⟩ := ht.get htk
     have hrd : ∀ d ∈ io.reads, cur.s d = fin.s d := by
      intro d hd
      refine hcur.slot ht fun k jo hk hjd => ?_
      obtain ⟨hkm, hk'⟩ := htake hk
      exact hpre k (by omega) (dw.dep i k io jo d him hkm hio hk' hjd hd)
     have hsep : ∀ (k : Nat) (jo : Ins) (d : Nat), (all.take m)[k]? = some jo → k ≠ i → jo.dst = some d → io.dst ≠ some d := by
      intro k jo d hk hki hjd
      exact TG dw.sc k i jo io d hk htk hki hjd
     obtain ⟨hfresh, hcur'⟩ := hcur.step ht dw.sc htk hpN hunf (S' := fun k => (listed.setIfInBounds i true).getD k false) (fun k => hgn k) hsep
     have hnext : ∀ μ' a' w', BJ w0 O L n μ' (St.put ⟨cur.s, N7 N cur.r⟩ io.dst p) a' w' → Inv P w0 O L n all m st st' tr (listed.setIfInBounds i true) a' w' := by
      intro μ' a' w' h'
      exact .pure μ' _ h' hcur' fun j hj => by rw [getD_set_ne false (by omega)]; exact hm' j hj
     have hop : ∀ x ∈ io.op.opds, ∀ q, x.ev fin.s = some q → q.tk (fun t => (cur.r t).isSome) = true := by
      intro x hx q hq
      have hpl := dw.con io (List.mem_of_getElem? htk) x hx
      cases x with
      | c y => simp only [DD.ev, Option.some.injEq] at hq; subst hq; exact PV.tk_free hpl _
      | t d =>
       have hd : d ∈ io.reads := List.mem_append_left _ (List.mem_flatMap.2 ⟨.t d, hx, by simp [DD.slot]⟩)
       have hq' : cur.s d = some q := (hrd d hd).trans hq
       obtain ⟨v, _, hr⟩ := hst.slot d q hq'
       exact hr.tk
     rcases ht.fact i io p N htk hpN with ⟨hg, hp⟩ | ⟨hg, hp, hN⟩
     ·refine hgo (cur := cur) hst hio (.run ((KP hrd).trans hg) (.pur p N (hp.congr (RL hrd) hop fun t ht' => ?_) hfresh)) hnext
      obtain ⟨row, hrow⟩ := Option.isSome_iff_exists.1 ht'
      rw [hrow, hcur.sub ht hrow]
     ·subst hp
      subst hN
      exact hgo (cur := cur) hst hio (.skip ((KP hrd).trans hg)) hnext
   | tail k μ cur hst hk h1' h2' hs =>
    have hik : i = k := by
     rcases Nat.lt_trichotomy i k with h' | h' | h'
     ·have := h1' i h'; rw [hunf] at this; cases this
     ·exact h'
     ·have := hpre k (by omega) (dw.suf i k (by omega) hi h')
      rw [h2' k (Nat.le_refl _)] at this; cases this
    subst hik
    exact htail hst hk h2' hs
 refine key ops.size _ a w ?_ (by simp) (fun k x hk hx hl _ => ?_) (.pure μ st h ⟨fun k io p N d _ _ hS => ?_, fun _ _ => rfl, fun k p N t row _ hS => ?_, fun _ _ => rfl⟩ fun i _ => ?_)
 ·unfold mE
  exact Nat.le_trans (List.length_filter_le _ _) (by simp)
 ·simp [Array.getD, hk] at hl
 ·exfalso
  simp only [Array.getD] at hS
  split at hS
  ·simp at hS
  ·cases hS
 ·exfalso
  simp only [Array.getD] at hS
  split at hS
  ·simp at hS
  ·cases hS
 ·simp only [Array.getD]
  split
  ·simp
  ·rfl
end
def Wr [BA] (P : Program) (T : Nat → Bool) : List Ins → St → (St → Prop) → Prop
 | [], st, K => K st
 | io :: r, st, K => ∃ st0 st', C9 T st st0 ∧ Step P T io st0 st' ∧ Wr P T r st' K
def p8 (ds : List (List Nat)) (S : List Nat) : List Nat := (List.range ds.length).filter fun i => !S.contains i && (ds.getD i []).all fun j => S.contains j
def AnyW [BA] (P : Program) (T : Nat → Bool) (ds : List (List Nat)) (ios : List Ins) : Nat → List Nat → St → St → Prop
 | 0, S, st, fin => p8 ds S = [] ∧ C9 T st fin
 | n + 1, S, st, fin => (p8 ds S = [] → C9 T st fin) ∧ ∀ i ∈ p8 ds S, ∃ io, ios[i]? = some io ∧ Wr P T [io] st (fun s => AnyW P T ds ios n (i :: S) s fin)
section
variable {w0 : World} {O : Nat → Prop} {L : MN} {n : Nat} {P : Program} {fin : St} {ops : Array Oper} {all : List Ins}
theorem eX {ds : List (List Nat)} (hds : ds = ops.toList.map WM) {S : List Nat} {listed : Array Bool} (hsz : listed.size = ops.size) (hS : ∀ i, S.contains i = listed.getD i false) (i : Nat) : i ∈ p8 ds S ↔ i ∈ Region.ready .any ops listed := by
 subst hds
 rw [mem_ready]
 unfold p8
 rw [List.mem_filter, List.mem_range, List.length_map, Array.length_toList, Bool.and_eq_true, hS, List.all_eq_true, List.getD_eq_getElem?_getD, List.getElem?_map, Array.getElem?_toList]
 constructor
 ·rintro ⟨hi, h1, h2⟩
  have ho : ops[i]? = some ops[i] := Array.getElem?_eq_getElem hi
  rw [ho, Option.map_some, Option.getD_some] at h2
  refine ⟨by have : i < listed.size := by omega
             simpa [Array.getD, this] using h1, ops[i], ho, fun e he hb => ?_⟩
  have := h2 e.on (by
   unfold WM
   exact List.mem_map.2 ⟨e, List.mem_filter.2 ⟨by simpa using he, hb⟩, rfl⟩)
  rwa [hS] at this
 ·rintro ⟨h1, o, ho, h2⟩
  have hi : i < ops.size := (Array.getElem?_eq_some_iff.1 ho).1
  refine ⟨hi, by have : i < listed.size := by omega
                 simpa [Array.getD, this] using h1, fun j hj => ?_⟩
  rw [ho, Option.map_some, Option.getD_some] at hj
  unfold WM at hj
  obtain ⟨e, he, rfl⟩ := List.mem_map.1 hj
  obtain ⟨he, hb⟩ := List.mem_filter.1 he
  rw [hS]
  exact h2 e (by simpa using he) hb
theorem lU [BA] (hc : WR P n ops ops.toList = some all) {ds : List (List Nat)} (hds : ds = ops.toList.map WM) {Q : Exit → Act → World → Prop} (hQ : ∀ μ' a' w', BJ w0 O L n μ' fin a' w' → Q .normal a' w') :
  ∀ (k : Nat) (S : List Nat) (listed : Array Bool) (cur : St) (μ : Mu) (a : Act) (w : World), listed.size = ops.size → (∀ i, S.contains i = listed.getD i false) → BJ w0 O L n μ cur a w → AnyW P L.T ds all k S cur fin → wpAny P .any ops Q k listed a w := by
 obtain ⟨hlen, hget⟩ := QA hc
 have hnil : ∀ (S : List Nat) (listed : Array Bool), listed.size = ops.size → (∀ i, S.contains i = listed.getD i false) → (p8 ds S = [] ↔ Region.ready .any ops listed = []) := by
  intro S listed hsz hS
  rw [List.eq_nil_iff_forall_not_mem, List.eq_nil_iff_forall_not_mem]
  exact forall_congr' fun i => not_congr (eX hds hsz hS i)
 have hend : ∀ (μ : Mu) (cur : St) (a : Act) (w : World), BJ w0 O L n μ cur a w → C9 L.T cur fin → Q .normal a w := by
  intro μ cur a w h hn
  obtain ⟨μ', h'⟩ := hn _ _ _ _ _ _ _ rfl h
  exact hQ μ' a w h'
 intro k
 induction k with
 | zero =>
  intro S listed cur μ a w hsz hS h hA
  exact ⟨(hnil S listed hsz hS).1 hA.1, hend μ cur a w h hA.2⟩
 | succ k ih =>
  intro S listed cur μ a w hsz hS h hA
  refine ⟨fun hr => hend μ cur a w h (hA.1 ((hnil S listed hsz hS).2 hr)), fun i hi => ?_⟩
  obtain ⟨io, hio, st0, st1, hn, hstep, hK⟩ := hA.2 i ((eX hds hsz hS i).2 hi)
  rw [mem_ready] at hi
  obtain ⟨hun, o, ho, _⟩ := hi
  have hlt : i < ops.size := (Array.getElem?_eq_some_iff.1 ho).1
  obtain ⟨μ1, h1⟩ := hn _ _ _ _ _ _ _ rfl h
  refine Step.goes ho (hget i o io (by rw [Array.getElem?_toList]; exact ho) hio) h1 hstep fun μ' a' w' h' => ?_
  refine ih (i :: S) _ st1 μ' a' w' (by simpa using hsz) (fun j => ?_) h' hK
  have hlt' : i < listed.size := by omega
  by_cases hji : j = i
  ·subst hji
   simp [Array.getD, hlt']
  ·rw [getD_set_ne false (Ne.symm hji), ← hS j]
   simp [hji]
end
structure FW (ops : Array Oper) (all : List Ins) (m : Nat) (F : List Nat) (ms : List Nat) : Prop where
 low : ∀ k j, j ∈ GA ops k → j < k
 clo : ∀ k x, k < ops.size → x < ops.size → KL ms k x = true → x ∈ GA ops k ∨ ∃ j ∈ GA ops k, KL ms j x = true
 sc : NN (all.take m) = true
 con : ∀ io ∈ all.take m, ∀ x ∈ io.op.opds, x.plain = true
 dep : ∀ i k io jo d, i < m → k < m → all[i]? = some io → all[k]? = some jo → jo.dst = some d → d ∈ io.reads → KL ms i k = true
 suf : ∀ i j, m ≤ i → i < ops.size → j < m → F.contains j = false → KL ms i j = true
 flo : ∀ f, F.contains f = true → f < m ∧ ∃ io, all[f]? = some io ∧ wR io.op = false
def bP (ops : Array Oper) (all : List Ins) (m : Nat) (F : List Nat) : Bool :=
 let ms := masks ops.toList
 ((List.range ops.size).all fun k => (GA ops k).all fun j => decide (j < k)) &&
 ((List.range ops.size).all fun k => (List.range ops.size).all fun x => !KL ms k x || (GA ops k).contains x || (GA ops k).any fun j => KL ms j x) &&
 NN (all.take m) && ((all.take m).all fun io => io.op.opds.all DD.plain) &&
 ((List.range m).all fun i => (List.range m).all fun k => qX all ms i k) &&
 ((List.range ops.size).all fun i => decide (i < m) || (List.range m).all fun j => F.contains j || KL ms i j) &&
 F.all fun f => decide (f < m) && match all[f]? with | some io => !wR io.op | none => false
theorem nO {ops : Array Oper} {all : List Ins} {m : Nat} {F : List Nat} (h : bP ops all m F = true) : FW ops all m F (masks ops.toList) := by
 simp only [bP, Bool.and_eq_true, List.all_eq_true, List.mem_range, decide_eq_true_eq] at h
 obtain ⟨⟨⟨⟨⟨⟨h1, h2⟩, h3⟩, h4⟩, h5⟩, h6⟩, h7⟩ := h
 refine ⟨fun k j hj => ?_, fun k x hk hx hb => ?_, h3, fun io hio x hx => h4 io hio x hx, fun i k io jo d hi hk hio hjo hd hr => ?_, fun i j hm hi hj hf => ?_, fun f hf => ?_⟩
 ·rcases Nat.lt_or_ge k ops.size with hk | hk
  ·exact h1 k hk j hj
  ·rw [GA, Array.getElem?_eq_none hk] at hj; cases hj
 ·have := h2 k hk x hx
  rw [hb] at this
  simp only [Bool.not_true, Bool.false_or, Bool.or_eq_true, List.contains_iff_mem, List.any_eq_true] at this
  exact this
 ·have := h5 i hi k hk
  simp only [qX, hio, hjo, hd, Bool.or_eq_true, Bool.not_eq_true'] at this
  rcases this with h | h
  ·have hc : io.reads.contains d = true := by simpa using hr
   rw [hc] at h; cases h
  ·exact h
 ·have := h6 i hi
  rw [decide_eq_false (by omega), Bool.false_or] at this
  have := List.all_eq_true.1 this j (List.mem_range.2 hj)
  rw [Bool.or_eq_true, hf] at this
  exact this.resolve_left (by simp)
 ·obtain ⟨h8, h9⟩ := h7 f (List.contains_iff_mem.1 hf)
  refine ⟨h8, ?_⟩
  cases hf : all[f]? with
  | none => simp [hf] at h9
  | some io => exact ⟨io, rfl, by simpa [hf] using h9⟩
def YK (ios : List Ins) (U : List Nat) (d : Nat) : Bool := U.any fun u => match (ios[u]?).bind (·.dst) with | some e => Nat.beq e d | none => false
def YZ (ios : List Ins) (U : List Nat) (st fin : St) : St := ⟨fun d => bif YK ios U d then st.s d else fin.s d, fin.r⟩
def eQ : List Nat → List (List Nat)
 | [] => [[]]
 | x :: l => eQ l ++ (eQ l).map (x :: ·)
def kJ (ds : List (List Nat)) (F : List Nat) : List (List Nat) := (eQ F).filter fun U => F.all fun k => U.contains k || (ds.getD k []).all fun j => !U.contains j
theorem jO (q : Nat → Bool) : ∀ l : List Nat, l.filter q ∈ eQ l
 | [] => by simp [eQ]
 | x :: l => by
  rw [eQ, List.filter_cons]
  have := jO q l
  cases q x
  ·exact List.mem_append_left _ this
  ·exact List.mem_append_right _ (List.mem_map.2 ⟨_, this, rfl⟩)
theorem AnyW.more [BA] {P : Program} {T : Nat → Bool} {ds : List (List Nat)} {ios : List Ins} {fin : St} : ∀ (n : Nat) (S : List Nat) (st : St), AnyW P T ds ios n S st fin → AnyW P T ds ios (n + 1) S st fin
 | 0, S, st, h => ⟨fun _ => h.2, fun i hi => by rw [h.1] at hi; cases hi⟩
 | n + 1, S, st, h => ⟨h.1, fun i hi => by
  obtain ⟨io, hio, st0, st1, h1, h2, h3⟩ := h.2 i hi
  exact ⟨io, hio, st0, st1, h1, h2, AnyW.more n _ _ h3⟩⟩
theorem AnyW.le [BA] {P : Program} {T : Nat → Bool} {ds : List (List Nat)} {ios : List Ins} {fin : St} {n k : Nat} {S : List Nat} {st : St} (h : AnyW P T ds ios n S st fin) (hk : n ≤ k) : AnyW P T ds ios k S st fin := by
 induction hk with
 | refl => exact h
 | step _ ih => exact ih.more
def pQ (ds : List (List Nat)) (S : List Nat) : Nat := ((List.range ds.length).filter fun i => !S.contains i).length
theorem kI [BA] {ds : List (List Nat)} {S : List Nat} {i : Nat} (h : i ∈ p8 ds S) : pQ ds (i :: S) < pQ ds S := by
 unfold p8 at h
 rw [List.mem_filter, Bool.and_eq_true] at h
 refine filter_lt (fun x hx => ?_) _ i h.1 h.2.1 (by simp)
 simp only [List.contains_cons, Bool.not_or, Bool.and_eq_true] at hx
 exact hx.2
theorem AnyW.fit [BA] {P : Program} {T : Nat → Bool} {ds : List (List Nat)} {ios : List Ins} {fin : St} : ∀ (k n : Nat) (S : List Nat) (st : St), pQ ds S ≤ n → AnyW P T ds ios k S st fin → AnyW P T ds ios n S st fin
 | 0, n, S, st, hn, h => AnyW.le (n := 0) h (Nat.zero_le _)
 | k + 1, 0, S, st, hn, h => by
  have hr : p8 ds S = [] := List.eq_nil_iff_forall_not_mem.2 fun i hi => by have := kI hi; omega
  exact ⟨hr, h.1 hr⟩
 | k + 1, n + 1, S, st, hn, h => ⟨h.1, fun i hi => by
  obtain ⟨io, hio, st0, st1, h1, h2, h3⟩ := h.2 i hi
  exact ⟨io, hio, st0, st1, h1, h2, AnyW.fit k n _ _ (by have := kI hi; omega) h3⟩⟩
section
variable {w0 w : World} {O : Nat → Prop} {L : MN} {n : Nat} {μ : Mu} {P : Program} {st st' fin : St} {a : Act} {ops : Array Oper} {all : List Ins} {m : Nat} {F : List Nat}
theorem Kr [BA] (hc : WR P n ops ops.toList = some all) (hw : bP ops all m F = true) (hmle : m ≤ ops.size) (h0 : ND P (all.take m) st fin) {ds : List (List Nat)} (hds : ds = ops.toList.map WM)
  (h1 : ∀ U ∈ kJ ds F, ∃ k, AnyW P L.T ds all k ((List.range m).filter fun i => !U.contains i) (YZ all U st fin) st') (h : BJ w0 O L n μ st a w) {Q : Exit → Act → World → Prop}
  (hQ : ∀ μ' a' w', BJ w0 O L n μ' st' a' w' → Q .normal a' w') : wpAny P .any ops Q ops.size (Array.replicate ops.size false) a w := by
 obtain ⟨hlen, hget⟩ := QA hc
 have hlen' : all.length = ops.size := by rw [← hlen]; simp
 have dw := nO hw
 obtain ⟨tr, ht⟩ := h0.trace dw.sc
 generalize hms : masks ops.toList = ms at dw
 have htake : ∀ {k : Nat} {io : Ins}, (all.take m)[k]? = some io → k < m ∧ all[k]? = some io := by
  intro k io hk
  rw [List.getElem?_take] at hk
  split at hk
  ·exact ⟨by assumption, hk⟩
  ·cases hk
 have hfull : ∀ {k : Nat}, k < ops.size → ∃ io o, all[k]? = some io ∧ ops[k]? = some o ∧ Ef P n ops o = some io := by
  intro k hk
  have h1 : all[k]? = some (all[k]'(by omega)) := List.getElem?_eq_getElem (by omega)
  have h2 : ops[k]? = some ops[k] := Array.getElem?_eq_getElem hk
  exact ⟨_, _, h1, h2, hget k _ _ (by rw [Array.getElem?_toList]; exact h2) h1⟩
 have hall0 : ∀ (listed : Array Bool), listed.size = ops.size → mE listed ops.size ≤ 0 → ∀ i, i < ops.size → listed.getD i false = true := by
  intro listed hsz hu i hi
  cases hl : listed.getD i false with
  | true => rfl
  | false =>
   have : i ∈ (List.range ops.size).filter fun i => !listed.getD i true := by
    rw [List.mem_filter, List.mem_range]
    have hlt : i < listed.size := by omega
    refine ⟨hi, ?_⟩
    simp [Array.getD, hlt] at hl ⊢
    exact hl
   unfold mE at hu
   rw [List.length_eq_zero_iff.1 (Nat.le_zero.1 hu)] at this
   cases this
 have late : ∀ (fuel : Nat) (listed : Array Bool) (μ : Mu) (cur : St) (a : Act) (w : World), mE listed ops.size ≤ fuel → listed.size = ops.size → (∀ k, listed.getD k false = true → ∀ j ∈ GA ops k, listed.getD j false = true) → BJ w0 O L n μ cur a w → tK (all.take m) tr st (fun k => listed.getD k false) cur →
   (∀ i, m ≤ i → listed.getD i false = false) → (∀ j, j < m → F.contains j = false → listed.getD j false = true) → wpAny P .any ops Q fuel listed a w := by
  intro fuel listed μ cur a w hu hsz hdr hst hcur hm' hdone
  let U := F.filter fun f => !listed.getD f false
  have hUc : ∀ x, U.contains x = true ↔ F.contains x = true ∧ listed.getD x false = false := by
   intro x
   rw [List.contains_iff_mem, List.contains_iff_mem, List.mem_filter, Bool.not_eq_true']
  have hUm : U ∈ kJ ds F := by
   refine List.mem_filter.2 ⟨jO _ F, List.all_eq_true.2 fun k hk => ?_⟩
   cases hkl : listed.getD k false with
   | false => rw [(hUc k).2 ⟨List.contains_iff_mem.2 hk, hkl⟩, Bool.true_or]
   | true =>
    rw [Bool.or_eq_true]
    refine .inr (List.all_eq_true.2 fun j hj => ?_)
    have hjd : j ∈ GA ops k := by
     rw [hds, List.getD_eq_getElem?_getD, List.getElem?_map, Array.getElem?_toList] at hj
     unfold GA
     cases ho : ops[k]? with
     | none => rw [ho] at hj; cases hj
     | some o => rw [ho] at hj; exact hj
    cases hc : U.contains j with
    | false => rfl
    | true => exact absurd (hdr k hkl j hjd) (by rw [((hUc j).1 hc).2]; simp)
  have hcf : cur = YZ all U st fin := by
   have hr : cur.r = fin.r := by
    funext t
    cases hct : cur.r t with
    | some row => exact (hcur.sub ht hct).symm
    | none =>
     symm
     have hnone : ∀ (k : Nat) (p : PV) (N : Rows), tr[k]? = some (p, N) → N t = none := by
      intro k p N hk
      have hlt := (List.getElem?_eq_some_iff.1 hk).1
      rw [ht.len] at hlt
      cases hkl : listed.getD k false with
      | true =>
       cases hN : N t with
       | none => rfl
       | some r => rw [hcur.r1 k p N t r hk hkl hN] at hct; cases hct
      | false =>
       have hkF : F.contains k = true := by
        cases hf : F.contains k with
        | true => rfl
        | false => rw [hdone k (by simp at hlt; omega) hf] at hkl; cases hkl
       obtain ⟨hkm, iof, hiof, hE⟩ := dw.flo k hkF
       have htf : (all.take m)[k]? = some iof := by rw [List.getElem?_take, if_pos hkm]; exact hiof
       rcases ht.fact k iof p N htf hk with ⟨_, hp⟩ | ⟨_, _, hN⟩
       ·generalize iof.op = op at hp hE
        cases hp <;> first | rfl | cases hE
       ·rw [hN]; rfl
     rw [ht.rold t hnone, ← hcur.r2 t fun k p N hk _ => hnone k p N hk, hct]
   have hs : cur.s = (YZ all U st fin).s := by
    funext d
    show cur.s d = bif YK all U d then st.s d else fin.s d
    cases hl : YK all U d with
    | true =>
     unfold YK at hl
     obtain ⟨u, hu, hd⟩ := List.any_eq_true.1 hl
     obtain ⟨huF, hul⟩ := (hUc u).1 (List.contains_iff_mem.2 hu)
     obtain ⟨hum, iof, hiof, hE⟩ := dw.flo u huF
     have htf : (all.take m)[u]? = some iof := by rw [List.getElem?_take, if_pos hum]; exact hiof
     rw [hiof, Option.bind_some] at hd
     have hdst : iof.dst = some d := by
      cases hx : iof.dst with
      | none => rw [hx] at hd; cases hd
      | some e => rw [hx] at hd; rw [Nat.eq_of_beq_eq_true hd]
     refine hcur.s2 d fun k io hk hSk hkd => ?_
     by_cases hku : k = u
     ·subst hku
      rw [hul] at hSk
      cases hSk
     ·exact TG dw.sc k u io iof d hk htf hku hkd hdst
    | false =>
     refine hcur.slot ht fun k io hk hkd => ?_
     obtain ⟨hkm, hk'⟩ := htake hk
     cases hkl : listed.getD k false with
     | true => rfl
     | false =>
      exfalso
      have hkF : F.contains k = true := by
       cases hf : F.contains k with
       | true => rfl
       | false => rw [hdone k hkm hf] at hkl; cases hkl
      have : YK all U d = true := by
       unfold YK
       refine List.any_eq_true.2 ⟨k, List.contains_iff_mem.1 ((hUc k).2 ⟨hkF, hkl⟩), ?_⟩
       rw [hk', Option.bind_some, hkd]
       exact Nat.beq_refl d
      rw [hl] at this
      cases this
   obtain ⟨cs, cr⟩ := cur
   simp only at hr hs
   unfold YZ at hs ⊢
   rw [hr, hs]
  obtain ⟨k, hA⟩ := h1 U hUm
  subst hcf
  have hS : ∀ i, ((List.range m).filter fun i => !U.contains i).contains i = listed.getD i false := by
   intro i
   rw [Bool.eq_iff_iff, List.contains_iff_mem, List.mem_filter, List.mem_range, Bool.not_eq_true']
   constructor
   ·rintro ⟨hi, hiU⟩
    cases hl : listed.getD i false with
    | true => rfl
    | false =>
     cases hf : F.contains i with
     | true => rw [(hUc i).2 ⟨hf, hl⟩] at hiU; cases hiU
     | false => rw [hdone i hi hf] at hl; cases hl
   ·intro hl
    refine ⟨?_, ?_⟩
    ·apply Nat.lt_of_not_le
     intro hmi
     rw [hm' i hmi] at hl
     cases hl
    ·cases hU : U.contains i with
     | false => rfl
     | true => rw [((hUc i).1 hU).2] at hl; cases hl
  refine lU hc hds hQ fuel ((List.range m).filter fun i => !U.contains i) listed _ μ a w hsz hS hst (AnyW.fit k fuel _ _ ?_ hA)
  refine Nat.le_trans (Nat.le_of_eq ?_) hu
  unfold pQ mE
  rw [hds, List.length_map, Array.length_toList]
  refine congrArg List.length (List.filter_congr fun x hx => ?_)
  rw [List.mem_range] at hx
  have hlt : x < listed.size := by omega
  rw [hS x]
  simp [Array.getD, hlt]
 have key : ∀ (fuel : Nat) (listed : Array Bool) (μ : Mu) (cur : St) (a : Act) (w : World), mE listed ops.size ≤ fuel → listed.size = ops.size → (∀ k x, k < ops.size → x < ops.size → listed.getD k false = true → KL ms k x = true → listed.getD x false = true) → (∀ k, listed.getD k false = true → ∀ j ∈ GA ops k, listed.getD j false = true) →
   BJ w0 O L n μ cur a w → tK (all.take m) tr st (fun k => listed.getD k false) cur → (∀ i, m ≤ i → listed.getD i false = false) → wpAny P .any ops Q fuel listed a w := by
  intro fuel
  induction fuel with
  | zero =>
   intro listed μ cur a w hu hsz hclo hdr hst hcur hm'
   exact late 0 listed μ cur a w hu hsz hdr hst hcur hm' fun j hj _ => hall0 listed hsz hu j (by omega)
  | succ fuel ih =>
   intro listed μ cur a w hu hsz hclo hdr hst hcur hm'
   by_cases hdone : ∀ j, j < m → F.contains j = false → listed.getD j false = true
   ·exact late _ listed μ cur a w hu hsz hdr hst hcur hm' hdone
   refine ⟨fun hr => absurd (fun j hj _ => dE dw.low hsz hr j (by omega)) hdone, fun i hi => ?_⟩
   rw [mem_ready] at hi
   obtain ⟨hun, o, ho, hed⟩ := hi
   have hi : i < ops.size := (Array.getElem?_eq_some_iff.1 ho).1
   have hlt : i < listed.size := by omega
   have hdir : ∀ j ∈ GA ops i, listed.getD j false = true := by
    intro j hj
    simp only [GA, ho, WM, List.mem_map, List.mem_filter] at hj
    obtain ⟨e, ⟨he, hb⟩, rfl⟩ := hj
    exact hed e (by simpa using he) hb
   have hpre : ∀ x, x < ops.size → KL ms i x = true → listed.getD x false = true := by
    intro x hx hb
    rcases dw.clo i x hi hx hb with h | ⟨j, hj, hb'⟩
    ·exact hdir x h
    ·exact hclo j x (Nat.lt_trans (dw.low i j hj) hi) hx (hdir j hj) hb'
   have hgn : ∀ j, (listed.setIfInBounds i true).getD j false = true ↔ j = i ∨ listed.getD j false = true := by
    intro j
    by_cases hji : j = i
    ·subst hji; simp [Array.getD, hlt]
    ·rw [getD_set_ne false (Ne.symm hji)]; simp [hji]
   have hunf : listed.getD i false = false := by simpa [Array.getD, hlt] using hun
   have hu' : mE (listed.setIfInBounds i true) ops.size ≤ fuel := by
    have : mE (listed.setIfInBounds i true) ops.size < mE listed ops.size := by
     refine filter_lt (fun x hx => ?_) _ i (List.mem_range.2 hi) (by rw [hun]; rfl) (by simp [Array.getD, hlt])
     by_cases hxi : i = x
     ·subst hxi; simp [Array.getD, hlt] at hx
     ·rwa [getD_set_ne true hxi] at hx
    omega
   have hclo' : ∀ k x, k < ops.size → x < ops.size → (listed.setIfInBounds i true).getD k false = true → KL ms k x = true → (listed.setIfInBounds i true).getD x false = true := by
    intro k x hk hx hlk hb
    rw [hgn] at hlk ⊢
    rcases hlk with e | hlk
    ·subst e; exact .inr (hpre x hx hb)
    ·exact .inr (hclo k x hk hx hlk hb)
   have hdr' : ∀ k, (listed.setIfInBounds i true).getD k false = true → ∀ j ∈ GA ops k, (listed.setIfInBounds i true).getD j false = true := by
    intro k hk j hj
    rw [hgn] at hk ⊢
    rcases hk with e | hk
    ·subst e; exact .inr (hdir j hj)
    ·exact .inr (hdr k hk j hj)
   have him : i < m := by
    apply Nat.lt_of_not_le
    intro hmi
    exact hdone fun j hj hjf => hpre j (by omega) (dw.suf i j hmi hi hj hjf)
   obtain ⟨io, o', hio, ho', _⟩ := hfull hi
   have htk : (all.take m)[i]? = some io := by rw [List.getElem?_take, if_pos him]; exact hio
   obtain ⟨p, N, hpN⟩ := ht.get htk
   have hrd : ∀ d ∈ io.reads, cur.s d = fin.s d := by
    intro d hd
    refine hcur.slot ht fun k jo hk hjd => ?_
    obtain ⟨hkm, hk'⟩ := htake hk
    exact hpre k (by omega) (dw.dep i k io jo d him hkm hio hk' hjd hd)
   have hsep : ∀ (k : Nat) (jo : Ins) (d : Nat), (all.take m)[k]? = some jo → k ≠ i → jo.dst = some d → io.dst ≠ some d := by
    intro k jo d hk hki hjd
    exact TG dw.sc k i jo io d hk htk hki hjd
   obtain ⟨hfresh, hcur'⟩ := hcur.step ht dw.sc htk hpN hunf (S' := fun k => (listed.setIfInBounds i true).getD k false) (fun k => hgn k) hsep
   have hgo : ∀ {s2 : St}, Step P L.T io cur s2 → s2 = St.put ⟨cur.s, N7 N cur.r⟩ io.dst p → wpOp P ops Q i (wpAny P .any ops Q fuel (listed.setIfInBounds i true)) a w := by
    intro s2 hstep hs2
    subst hs2
    refine Step.goes ho (hget i o io (by rw [Array.getElem?_toList]; exact ho) hio) hst hstep fun μ' a' w' h' => ?_
    exact ih _ μ' _ a' w' hu' (by simpa using hsz) hclo' hdr' h' hcur' fun j hj => by rw [getD_set_ne false (by omega)]; exact hm' j hj
   have hop : ∀ x ∈ io.op.opds, ∀ q, x.ev fin.s = some q → q.tk (fun t => (cur.r t).isSome) = true := by
    intro x hx q hq
    have hpl := dw.con io (List.mem_of_getElem? htk) x hx
    cases x with
    | c y => simp only [DD.ev, Option.some.injEq] at hq; subst hq; exact PV.tk_free hpl _
    | t d =>
     have hd : d ∈ io.reads := List.mem_append_left _ (List.mem_flatMap.2 ⟨.t d, hx, by simp [DD.slot]⟩)
     have hq' : cur.s d = some q := (hrd d hd).trans hq
     obtain ⟨v, _, hr⟩ := hst.slot d q hq'
     exact hr.tk
   rcases ht.fact i io p N htk hpN with ⟨hg, hp⟩ | ⟨hg, hp, hN⟩
   ·refine hgo (.run ((KP hrd).trans hg) (.pur p N (hp.congr (RL hrd) hop fun t ht' => ?_) hfresh)) rfl
    obtain ⟨row, hrow⟩ := Option.isSome_iff_exists.1 ht'
    rw [hrow, hcur.sub ht hrow]
   ·subst hp
    subst hN
    exact hgo (.skip ((KP hrd).trans hg)) rfl
 refine key ops.size _ μ st a w ?_ (by simp) (fun k x hk hx hl _ => ?_) (fun k hl => ?_) h ⟨fun k io p N d _ _ hS => ?_, fun _ _ => rfl, fun k p N t row _ hS => ?_, fun _ _ => rfl⟩ fun i _ => ?_
 ·unfold mE
  exact Nat.le_trans (List.length_filter_le _ _) (by simp)
 ·simp [Array.getD, hk] at hl
 ·exfalso
  simp only [Array.getD] at hl
  split at hl
  ·simp at hl
  ·cases hl
 ·exfalso
  simp only [Array.getD] at hS
  split at hS
  ·simp at hS
  ·cases hS
 ·exfalso
  simp only [Array.getD] at hS
  split at hS
  ·simp at hS
  ·cases hS
 ·simp only [Array.getD]
  split
  ·simp
  ·rfl
end
inductive IC where
 | skip
 | reg (ios : List Ins)
 | regd (m : Nat) (ios : List Ins)
 | rega (ds : List (List Nat)) (ios : List Ins)
 | regf (m : Nat) (F : List Nat) (ds : List (List Nat)) (ios : List Ins)
 | seq (a b : IC)
 | cond (c : DD) (a b : IC)
 | block (id : Nat) (b : IC)
 | loop (b : IC)
 | exit (id : Nat)
 | ret
 | mark (a : IC)
def purOp : KY → Bool
 | .store _ _ _ | .app _ _ _ _ _ | .aps _ _ _ => false
 | _ => true
def Ao : List Ins → Nat
 | [] => 0
 | io :: r => bif purOp io.op then Ao r + 1 else 0
def pF (ops : Array Oper) (ios : List Ins) : Nat → Nat → Option Nat
 | 0, _ => none
 | k + 1, m => bif bU ops ios m && decide (m ≤ ops.size) then some m else pF ops ios k (m - 1)
theorem bA [BA] {ops : Array Oper} {ios : List Ins} : ∀ {k m n : Nat}, pF ops ios k m = some n → bU ops ios n = true ∧ n ≤ ops.size
 | 0, m, n, h => by cases h
 | k + 1, m, n, h => by
  unfold pF at h
  cases hd : (bU ops ios m && decide (m ≤ ops.size)) with
  | true =>
   rw [hd, cond_true, Option.some.injEq] at h
   subst h
   rw [Bool.and_eq_true, decide_eq_true_eq] at hd
   exact hd
  | false => rw [hd, cond_false] at h; exact bA h
def uZ (ops : Array Oper) (ios : List Ins) (m : Nat) : Option (List Nat) :=
 let ms := masks ops.toList
 let F := (List.range m).filter fun j => (List.range ops.size).any fun i => decide (m ≤ i) && !KL ms i j
 bif Nat.ble F.length 8 && (bP ops ios m F && decide (m ≤ ops.size)) then some F else none
theorem mP {ops : Array Oper} {ios : List Ins} {m : Nat} {F : List Nat} (h : uZ ops ios m = some F) : bP ops ios m F = true ∧ m ≤ ops.size := by
 unfold uZ at h
 simp only at h
 generalize ((List.range m).filter fun j => (List.range ops.size).any fun i => decide (m ≤ i) && !KL (masks ops.toList) i j) = G at h
 cases h1 : Nat.ble G.length 8 with
 | false => rw [h1] at h; cases h
 | true =>
  cases hd : (bP ops ios m G && decide (m ≤ ops.size)) with
  | true =>
   rw [h1, hd] at h
   cases h
   rw [Bool.and_eq_true, decide_eq_true_eq] at hd
   exact hd
  | false => rw [h1, hd] at h; cases h
def KX (P : Program) (n : Nat) : Code → Option IC
 | .skip => some .skip
 | .label _ => some .skip
 | .region _ ops false => (WR P n ops ops.toList).map .reg
 | .region _ ops true => match WR P n ops ops.toList with
  | some ios => match pF ops ios 3 (Ao ios) with
   | some m => some (.regd m ios)
   | none => match uZ ops ios (Ao ios) with
    | some f => some (.regf (Ao ios) f (ops.toList.map WM) ios)
    | none => some (.rega (ops.toList.map WM) ios)
  | none => none
 | .seq a b => match KX P n a, KX P n b with
  | some x, some y => some (.seq x y)
  | _, _ => none
 | .cond c a b => match I6 c, KX P n a, KX P n b with
  | some z, some x, some y => some (.cond z x y)
  | _, _, _ => none
 | .block id b => (KX P n b).map (.block id)
 | .loop b => (KX P n b).map .loop
 | .exit id => some (.exit id)
 | .ret => some .ret
 | _ => none
inductive Xt where
 | normal
 | exit (id : Nat)
 | ret
def Xt.ex : Xt → Exit
 | .normal => .normal
 | .exit id => .exit id
 | .ret => .ret
def Xt.blk (id : Nat) : Xt → Xt
 | .exit j => bif Nat.beq j id then .normal else .exit j
 | e => e
inductive Ex [BA] (P : Program) (T : Nat → Bool) : IC → St → Xt → St → Prop
 | skip {st : St} : Ex P T .skip st .normal st
 | reg {ios : List Ins} {st st' : St} (h : Steps P T ios st st') : Ex P T (.reg ios) st .normal st'
 | regd {m : Nat} {ios : List Ins} {st fin st' : St} (h : ND P (ios.take m) st fin) (k : Steps P T (ios.drop m) fin st') : Ex P T (.regd m ios) st .normal st'
 | regf {m : Nat} {F : List Nat} {ds : List (List Nat)} {ios : List Ins} {st fin fin' : St} (h0 : ND P (ios.take m) st fin) (h1 : ∀ U ∈ kJ ds F, ∃ k, AnyW P T ds ios k ((List.range m).filter fun i => !U.contains i) (YZ ios U st fin) fin') : Ex P T (.regf m F ds ios) st .normal fin'
 | rega {ds : List (List Nat)} {ios : List Ins} {st fin : St} (h : AnyW P T ds ios ios.length [] st fin) : Ex P T (.rega ds ios) st .normal fin
 | seq {a b : IC} {st st1 st2 : St} {e : Xt} (h : Ex P T a st .normal st1) (k : Ex P T b st1 e st2) : Ex P T (.seq a b) st e st2
 | seqx {a b : IC} {st st1 : St} {e : Xt} (h : Ex P T a st e st1) (he : e ≠ .normal) : Ex P T (.seq a b) st e st1
 | cond {c : DD} {a b : IC} {st st' : St} {e : Xt} (t : Bool) (hc : c.ev st.s = some (.bool t)) (h : Ex P T (bif t then a else b) st e st') : Ex P T (.cond c a b) st e st'
 | block {id : Nat} {b : IC} {st st' : St} {e : Xt} (h : Ex P T b st e st') : Ex P T (.block id b) st (e.blk id) st'
 | loop {b : IC} {st st1 st2 : St} {e : Xt} (h : Ex P T b st .normal st1) (k : Ex P T (.loop b) st1 e st2) : Ex P T (.loop b) st e st2
 | loopx {b : IC} {st st1 : St} {e : Xt} (h : Ex P T b st e st1) (he : e ≠ .normal) : Ex P T (.loop b) st e st1
 | exit {id : Nat} {st : St} : Ex P T (.exit id) st (.exit id) st
 | ret {st : St} : Ex P T .ret st .ret st
 | norm {c : IC} {st st1 st2 : St} {e : Xt} (h : C9 T st st1) (k : Ex P T c st1 e st2) : Ex P T c st e st2
 | normr {c : IC} {st st1 st2 : St} {e : Xt} (k : Ex P T c st e st1) (h : C9 T st1 st2) : Ex P T c st e st2
section
variable {P : Program} {n : Nat}
inductive CC (P : Program) (n : Nat) : Code → IC → Prop
 | skip : CC P n .skip .skip
 | label (l : Nat) : CC P n (.label l) .skip
 | reg (id : Nat) (ops : Array Oper) (ios : List Ins) (h : WR P n ops ops.toList = some ios) : CC P n (.region id ops false) (.reg ios)
 | regd (id : Nat) (ops : Array Oper) (ios : List Ins) (m : Nat) (h : WR P n ops ops.toList = some ios) (hd : bU ops ios m = true) (hm : m ≤ ops.size) : CC P n (.region id ops true) (.regd m ios)
 | regf (id : Nat) (ops : Array Oper) (ios : List Ins) (m : Nat) (f : List Nat) (h : WR P n ops ops.toList = some ios) (hd : bP ops ios m f = true) (hm : m ≤ ops.size) : CC P n (.region id ops true) (.regf m f (ops.toList.map WM) ios)
 | rega (id : Nat) (ops : Array Oper) (ios : List Ins) (h : WR P n ops ops.toList = some ios) : CC P n (.region id ops true) (.rega (ops.toList.map WM) ios)
 | seq (a b : Code) (x y : IC) (h1 : KX P n a = some x) (h2 : KX P n b = some y) : CC P n (.seq a b) (.seq x y)
 | cond (c : Operand) (a b : Code) (z : DD) (x y : IC) (h0 : I6 c = some z) (h1 : KX P n a = some x) (h2 : KX P n b = some y) : CC P n (.cond c a b) (.cond z x y)
 | block (id : Nat) (b : Code) (x : IC) (h : KX P n b = some x) : CC P n (.block id b) (.block id x)
 | loop (b : Code) (x : IC) (h : KX P n b = some x) : CC P n (.loop b) (.loop x)
 | exit (id : Nat) : CC P n (.exit id) (.exit id)
 | ret : CC P n .ret .ret
theorem IB [BA] {c : Code} {ic : IC} (h : KX P n c = some ic) : CC P n c ic := by
 unfold KX at h
 split at h <;> try (cases h; done)
 ·cases h; exact .skip
 ·cases h; exact .label _
 ·obtain ⟨x, h1, hx⟩ := Option.map_eq_some_iff.1 h
  cases hx
  exact .reg _ _ _ h1
 ·split at h
  ·rename_i ios hios
   split at h
   ·rename_i m h1
    cases h
    obtain ⟨h2, h3⟩ := bA h1
    exact .regd _ _ _ _ hios h2 h3
   ·split at h
    ·rename_i f h1
     cases h
     obtain ⟨h2, h3⟩ := mP h1
     exact .regf _ _ _ _ _ hios h2 h3
    ·cases h
     exact .rega _ _ _ hios
  ·cases h
 ·split at h
  ·rename_i h1 h2
   cases h
   exact .seq _ _ _ _ h1 h2
  ·cases h
 ·split at h
  ·rename_i h0 h1 h2
   cases h
   exact .cond _ _ _ _ _ _ h0 h1 h2
  ·cases h
 ·obtain ⟨x, h1, hx⟩ := Option.map_eq_some_iff.1 h
  cases hx
  exact .block _ _ _ h1
 ·obtain ⟨x, h1, hx⟩ := Option.map_eq_some_iff.1 h
  cases hx
  exact .loop _ _ h1
 ·cases h; exact .exit _
 ·cases h; exact .ret
theorem nZ [BA] {c : Code} {b : IC} (h : KX P n c = some (.loop b)) : ∃ c', c = .loop c' ∧ KX P n c' = some b := by
 cases IB h with
 | loop c' _ h => exact ⟨c', rfl, h⟩
def Goes [BA] (P : Program) (T : Nat → Bool) (n : Nat) (ic : IC) (st : St) (e : Xt) (st' : St) : Prop :=
 (∀ c, KX P n c = some ic → ∀ (w0 : World) (O : Nat → Prop) (L : MN) (μ : Mu) (a : Act) (w : World) (Q : Exit → Act → World → Prop), L.T = T → BJ w0 O L n μ st a w →
  (∀ μ' a' w', BJ w0 O L n μ' st' a' w' → Q e.ex a' w') → c.wp P Q a w) ∧
 (∀ b c, ic = .loop b → KX P n c = some b → ∃ k, ∀ (w0 : World) (O : Nat → Prop) (L : MN) (μ : Mu) (a : Act) (w : World) (Q : Exit → Act → World → Prop), L.T = T → BJ w0 O L n μ st a w →
  (∀ μ' a' w', BJ w0 O L n μ' st' a' w' → Q e.ex a' w') → Code.rounds P c Q k a w)
theorem Goes.of [BA] {T : Nat → Bool} {ic : IC} {st : St} {e : Xt} {st' : St} (hl : ∀ b, ic ≠ .loop b) (h : ∀ c, KX P n c = some ic → ∀ (w0 : World) (O : Nat → Prop) (L : MN) (μ : Mu) (a : Act) (w : World) (Q : Exit → Act → World → Prop), L.T = T → BJ w0 O L n μ st a w →
  (∀ μ' a' w', BJ w0 O L n μ' st' a' w' → Q e.ex a' w') → c.wp P Q a w) : Goes P T n ic st e st' := ⟨h, fun b c hb => absurd hb (hl b)⟩
theorem Goes.ofLoop [BA] {T : Nat → Bool} {b : IC} {st : St} {e : Xt} {st' : St} (h : ∀ c, KX P n c = some b → ∃ k, ∀ (w0 : World) (O : Nat → Prop) (L : MN) (μ : Mu) (a : Act) (w : World) (Q : Exit → Act → World → Prop), L.T = T → BJ w0 O L n μ st a w →
  (∀ μ' a' w', BJ w0 O L n μ' st' a' w' → Q e.ex a' w') → Code.rounds P c Q k a w) : Goes P T n (.loop b) st e st' := by
 refine ⟨fun c hc w0 O L μ a w Q hT hst hQ => ?_, fun b' c hb hc => by cases hb; exact h c hc⟩
 obtain ⟨c', rfl, hc'⟩ := nZ hc
 obtain ⟨k, hk⟩ := h c' hc'
 exact wp_loop_rounds k (hk w0 O L μ a w Q hT hst hQ)
theorem oP {e : Xt} (he : e ≠ .normal) {K : Act → World → Prop} {Q : Exit → Act → World → Prop} {a : Act} {w : World} (h : Q e.ex a w) : Exit.then K Q e.ex a w := by
 cases e with
 | normal => exact absurd rfl he
 | exit id => exact h
 | ret => exact h
theorem Ex.goes [BA] (hm : P.follows .mixedOrders = true) {T : Nat → Bool} {ic : IC} {st : St} {e : Xt} {st' : St} (h : Ex P T ic st e st') : Goes P T n ic st e st' := by
 induction h with
 | skip =>
  refine .of (fun b => by simp) fun c hc w0 O L μ a w Q hT hst hQ => ?_
  cases IB hc with
  | skip => exact wp_skip (hQ μ a w hst)
  | label l => exact wp_label (hQ μ a w hst)
 | reg h =>
  refine .of (fun b => by simp) fun c hc w0 O L μ a w Q hT hst hQ => ?_
  cases IB hc with
  | reg id ops x h1 =>
   subst hT
   refine wp_region ?_
   have := jP (Q := Q) h1 h 0 rfl μ a w hst hQ
   rw [← (QA h1).1] at this
   rw [List.range_eq_range']
   simpa using this
 | regd h k =>
  refine .of (fun b => by simp) fun c hc w0 O L μ a w Q hT hst hQ => ?_
  cases IB hc with
  | regd id ops ios m hios hd hle =>
   subst hT
   exact wp_region_any hm (xZ hios hd hle h k hst.drew hQ)
 | regf h0 h1 =>
  refine .of (fun b => by simp) fun c hc w0 O L μ a w Q hT hst hQ => ?_
  cases IB hc with
  | regf id ops ios' m f hios hd hle =>
   subst hT
   exact wp_region_any hm (Kr hios hd hle h0 rfl h1 hst.drew hQ)
 | rega h =>
  refine .of (fun b => by simp) fun c hc w0 O L μ a w Q hT hst hQ => ?_
  cases IB hc with
  | rega id ops ios' hios =>
   subst hT
   have hl := (QA hios).1
   rw [← hl, Array.length_toList] at h
   exact wp_region_any hm (lU hios rfl hQ ops.size [] _ _ _ _ _ (by simp) (fun i => by simp [Array.getD]) hst.drew h)
 | seq h k ih1 ih2 =>
  refine .of (fun b => by simp) fun c hc w0 O L μ a w Q hT hst hQ => ?_
  cases IB hc with
  | seq x y _ _ h1 h2 =>
   refine wp_seq (ih1.1 x h1 w0 O L μ a w _ hT hst fun μ' a' w' hst' => ?_)
   exact ih2.1 y h2 w0 O L μ' a' w' Q hT hst' hQ
 | seqx h he ih =>
  refine .of (fun b => by simp) fun c hc w0 O L μ a w Q hT hst hQ => ?_
  cases IB hc with
  | seq x y _ _ h1 h2 => exact wp_seq (ih.1 x h1 w0 O L μ a w _ hT hst fun μ' a' w' hst' => oP he (hQ μ' a' w' hst'))
 | cond t hcnd h ih =>
  refine .of (fun b => by simp) fun c hc w0 O L μ a w Q hT hst hQ => ?_
  cases IB hc with
  | cond c' x y z _ _ h0 h1 h2 =>
   have hb := (CR hst.slots h0 hcnd).bool_inv
   refine wp_cond hb ?_
   cases t with
   | true => exact ih.1 x h1 w0 O L μ a w Q hT hst hQ
   | false => exact ih.1 y h2 w0 O L μ a w Q hT hst hQ
 | block h ih =>
  rename_i id b st st' e
  refine .of (fun b => by simp) fun c hc w0 O L μ a w Q hT hst hQ => ?_
  cases IB hc with
  | block id' b' _ h1 =>
   refine wp_block (ih.1 b' h1 w0 O L μ a w _ hT hst fun μ' a' w' hst' => ?_)
   have hq := hQ μ' a' w' hst'
   cases e with
   | normal => exact hq
   | ret => exact hq
   | exit j =>
    simp only [Xt.ex, Exit.inBlock]
    by_cases hj : j = id
    ·subst hj
     rw [if_pos rfl]
     simpa [Xt.blk, Xt.ex] using hq
    ·rw [if_neg hj]
     have : Nat.beq j id = false := by rw [← Bool.not_eq_true, Nat.beq_eq]; exact hj
     simpa only [Xt.blk, this, cond_false, Xt.ex] using hq
 | loop h k ih1 ih2 =>
  refine .ofLoop fun c hc => ?_
  obtain ⟨m, hm'⟩ := ih2.2 _ c rfl hc
  refine ⟨m + 1, fun w0 O L μ a w Q hT hst hQ => ?_⟩
  rw [rounds_succ]
  exact ih1.1 c hc w0 O L μ a w _ hT hst fun μ' a' w' hst' => hm' w0 O L μ' a' w' Q hT hst' hQ
 | loopx h he ih =>
  refine .ofLoop fun c hc => ⟨1, fun w0 O L μ a w Q hT hst hQ => ?_⟩
  rw [rounds_succ]
  exact ih.1 c hc w0 O L μ a w _ hT hst fun μ' a' w' hst' => oP he (hQ μ' a' w' hst')
 | exit =>
  refine .of (fun b => by simp) fun c hc w0 O L μ a w Q hT hst hQ => ?_
  cases IB hc with
  | exit id => exact wp_exit (hQ μ a w hst)
 | ret =>
  refine .of (fun b => by simp) fun c hc w0 O L μ a w Q hT hst hQ => ?_
  cases IB hc with
  | ret => exact wp_ret (hQ μ a w hst)
 | norm h k ih =>
  refine ⟨fun c hc w0 O L μ a w Q hT hst hQ => ?_, fun b c hb hc => ?_⟩
  ·obtain ⟨μ', hst'⟩ := h w0 O L n μ a w hT hst
   exact ih.1 c hc w0 O L μ' a w Q hT hst' hQ
  ·obtain ⟨m, hm'⟩ := ih.2 b c hb hc
   refine ⟨m, fun w0 O L μ a w Q hT hst hQ => ?_⟩
   obtain ⟨μ', hst'⟩ := h w0 O L n μ a w hT hst
   exact hm' w0 O L μ' a w Q hT hst' hQ
 | normr k h ih =>
  refine ⟨fun c hc w0 O L μ a w Q hT hst hQ => ?_, fun b c hb hc => ?_⟩
  ·refine ih.1 c hc w0 O L μ a w Q hT hst fun μ' a' w' hst' => ?_
   obtain ⟨μ'', hst''⟩ := h w0 O L n μ' a' w' hT hst'
   exact hQ μ'' a' w' hst''
  ·obtain ⟨m, hm'⟩ := ih.2 b c hb hc
   refine ⟨m, fun w0 O L μ a w Q hT hst hQ => hm' w0 O L μ a w Q hT hst fun μ' a' w' hst' => ?_⟩
   obtain ⟨μ'', hst''⟩ := h w0 O L n μ' a' w' hT hst'
   exact hQ μ'' a' w' hst''
end
inductive YV where
 | tmp (t : Nat)
 | cell (sz : Nat) (ag : Bool) (t : Nat)
def Da (P : Program) : ResultVar → Option YV
 | .tmp t => some (.tmp t)
 | .cell a t => match PW P t, FQ P t with
  | some sz, some ag => some (.cell sz ag a)
  | _, _ => none
def cB (P : Program) : List ResultVar → Option (List YV)
 | [] => some []
 | x :: r => match Da P x, cB P r with
  | some y, some q => some (y :: q)
  | _, _ => none
structure CF where
 n : Nat
 code : IC
 res : List YV
def BV (P : Program) (fn : Func) : Option CF :=
 match fn.body with
 | some c => match KX P fn.ntmps c, cB P fn.results.toList with
  | some ic, some rs => some ⟨fn.ntmps, ic, rs⟩
  | _, _ => none
 | none => none
def YV.get (st : St) : YV → Option PV
 | .tmp t => st.s t
 | .cell sz ag t => (st.s t).bind (U5 st.r sz ag)
def gets (st : St) : List YV → Option (List PV)
 | [] => some []
 | x :: r => match x.get st, gets st r with
  | some p, some q => some (p :: q)
  | _, _ => none
def aX : List PV → PV
 | [p] => p
 | ps => .tup ps
def s0 (n : Nat) (ps : List PV) : EY := fun k => (ps ++ List.replicate (n - ps.length) PV.undef)[k]?
section
variable {P : Program} {w0 w : World} {O : Nat → Prop} {L : MN} {n : Nat} {μ : Mu} {st : St} {a : Act}
theorem mY {t : TypeId} {u v : Value} (h : (Instr.loadAt t u).run P w = .ok v w) : ∃ A, u = .pointer (some A) ∧ (loadVar t A).run P w = .ok v w := by
 unfold Instr.loadAt Instr.sureAddr at h
 cases u with
 | pointer o =>
  cases o with
  | some A => exact ⟨A, rfl, by simpa using h⟩
  | none => simp [stuck] at h
 | _ => simp [stuck] at h
def aW (tmps : Array Value) : ResultVar → Sem Value
 | .tmp t => pure (tmps.getD t undef)
 | .cell a t => do loadVar t (← asAddr (tmps.getD a undef))
theorem qQ {tmps : Array Value} {t : Nat} {v : Value} (h : tmps[t]? = some v) : tmps.getD t undef = v := by
 rw [Array.getD_eq_getD_getElem?, h]
 rfl
theorem yI [BA] (h : BJ w0 O L n μ st a w) {x : ResultVar} {y : YV} (hc : Da P x = some y) {p : PV} (hp : y.get st = some p) : ∃ v, (aW a.tmps x).run P w = .ok v w ∧ D8 w (Av O μ st.r) μ st.r p v := by
 cases x with
 | tmp t =>
  simp only [Da, Option.some.injEq] at hc
  subst hc
  obtain ⟨v, hv, hr⟩ := h.slot t p hp
  exact ⟨v, by simp [aW, qQ hv], hr⟩
 | cell b t =>
  simp only [Da] at hc
  split at hc
  ·rename_i sz ag hz ha
   cases hc
   simp only [YV.get] at hp
   obtain ⟨q, hq, hl⟩ := Option.bind_eq_some_iff.1 hp
   obtain ⟨u, hu, hr⟩ := h.slot b q hq
   obtain ⟨v, hrun, hv⟩ := kH (P := P) ha hz h.rows hr hl
   obtain ⟨A, rfl, hld⟩ := mY hrun
   exact ⟨v, by simp [aW, qQ hu, asAddr, hld], hv⟩
  ·cases hc
theorem gB [BA] (h : BJ w0 O L n μ st a w) : ∀ {l : List ResultVar} {m : List YV} {ps : List PV}, cB P l = some m → gets st m = some ps → ∃ vs, (l.mapM (aW a.tmps)).run P w = .ok vs w ∧ EK w (Av O μ st.r) μ st.r ps vs
 | [], m, ps, hc, hp => by
  simp only [cB, Option.some.injEq] at hc
  subst hc
  simp only [gets, Option.some.injEq] at hp
  subst hp
  exact ⟨[], by simp, rfl, fun j p v hj => by simp at hj⟩
 | x :: r, m, ps, hc, hp => by
  simp only [cB] at hc
  split at hc
  ·rename_i y q hy hq
   cases hc
   simp only [gets] at hp
   split at hp
   ·rename_i p pq hp1 hp2
    cases hp
    obtain ⟨v, hv, hr⟩ := yI h hy hp1
    obtain ⟨vs, hvs, hrs⟩ := gB h hq hp2
    refine ⟨v :: vs, by simp [List.mapM_cons, hv, hvs], by simp [hrs.len], fun j p' u hj hu => ?_⟩
    cases j with
    | zero => simp at hj hu; subst hj; subst hu; exact hr
    | succ j => exact hrs.rel j p' u (by simpa using hj) (by simpa using hu)
   ·cases hp
  ·cases hc
theorem jV [BA] (h : BJ w0 O L n μ st a w) {fn : Func} {m : List YV} {ps : List PV} (hc : cB P fn.results.toList = some m) (hp : gets st m = some ps) : ∃ v, (results fn a.tmps).run P w = .ok v w ∧ D8 w (Av O μ st.r) μ st.r (aX ps) v := by
 obtain ⟨vs, hvs, hrs⟩ := gB h hc hp
 have heq : results fn a.tmps = (do let vs ← fn.results.toList.mapM (aW a.tmps); pure (match vs with | [v] => v | vs => .tuple vs.toArray)) := by
  unfold results
  rw [Array.mapM_eq_mapM_toList]
  simp only [map_eq_pure_bind, bind_assoc, pure_bind]
  congr 1
  funext vs
  match vs with
  | [] => rfl
  | [v] => rfl
  | v :: u :: r => simp
 rw [heq]
 refine ⟨_, by simp only [Sem.run_bind, hvs, Result.andThen_ok, Sem.run_pure]; rfl, ?_⟩
 have hl := hrs.len
 cases ps with
 | nil =>
  cases vs with
  | nil => exact .tup [] [] rfl fun j p v hj => by simp at hj
  | cons => simp at hl
 | cons p r =>
  cases vs with
  | nil => simp at hl
  | cons v rs =>
   cases r with
   | nil =>
    cases rs with
    | nil => exact hrs.rel 0 p v rfl rfl
    | cons => simp at hl
   | cons p2 r2 =>
    cases rs with
    | nil => simp at hl
    | cons v2 rs2 => exact .tup (p :: p2 :: r2) (v :: v2 :: rs2) hl hrs.rel
theorem entry [BA] {Ri : Rows} {ps : List PV} {vs : List Value} (hO : Og w O) (hin : U9 w O μ Ri) (hargs : EK w (Av O μ Ri) μ Ri ps vs) (hlen : ps.length ≤ n) :
  BJ w O ⟨OM μ Ri, fun t => (Ri t).isSome, μ⟩ n μ ⟨s0 n ps, Ri⟩ { tmps := vs.toArray ++ Array.replicate (n - vs.toArray.size) undef, defers := [] } w := by
 have hl := hargs.len
 refine ⟨rfl, ?_, .refl _ _, ⟨hO.lt, hO.ok, fun b hb hx => by obtain ⟨t, row, l, h1, h2, h3⟩ := hx; exact (hin.own t row l h1 h2).2 (h3 ▸ hb)⟩, fun k p hk => ?_, hin.row, hin.inj, fun t row l h1 h2 => ⟨(hin.own t row l h1 h2).1, .inr ⟨t, row, l, h1, h2, rfl⟩⟩, fun t ht => ⟨rfl, Option.isSome_iff_exists.1 ht⟩⟩
 ·simp; omega
 ·simp only [s0] at hk
  by_cases hkl : k < ps.length
  ·rw [List.getElem?_append_left hkl] at hk
   have hv : vs[k]? = some (vs[k]'(by omega)) := List.getElem?_eq_getElem (by omega)
   refine ⟨vs[k]'(by omega), ?_, hargs.rel k p _ hk hv⟩
   rw [Array.getElem?_append_left (by simp; omega)]
   simp
  ·rw [List.getElem?_append_right (by omega), List.getElem?_replicate] at hk
   split at hk
   ·rename_i hlt
    cases hk
    refine ⟨undef, ?_, .base _ _ .undef⟩
    rw [Array.getElem?_append_right (by simp; omega), Array.getElem?_replicate]
    simp only [List.size_toArray]
    rw [if_pos (by omega)]
   ·cases hk
theorem mK [BA] (hm : P.follows .mixedOrders = true) {f : FuncId} {fn : Func} {F : CF} (hf : P.funcs[f]? = some fn) (hc : BV P fn = some F) {Ri Ro : Rows} {ps rs : List PV} (hlen : ps.length ≤ F.n) {e : Xt} {st' : St}
  (hex : Ex P (fun t => (Ri t).isSome) F.code ⟨s0 F.n ps, Ri⟩ e st') (he : ∀ id, e ≠ .exit id) (hres : gets st' F.res = some rs) (hrt : PV.tks (fun t => (Ro t).isSome) rs = true)
  (hro : ∀ t row, Ro t = some row → st'.r t = some row ∧ row.tk (fun t => (Ro t).isSome) = true) (hri : ∀ t row, Ri t = some row → ∃ row', Ro t = some row' ∧ row'.sz = row.sz ∧ row'.cs.length = row.cs.length) : Sat P f Ri ps (aX rs) Ro := by
 intro O μ w vs hO hin hargs
 unfold BV at hc
 cases hb : fn.body with
 | none => simp [hb] at hc
 | some c =>
  simp only [hb] at hc
  cases h1 : KX P fn.ntmps c with
  | none => simp [h1] at hc
  | some ic =>
   cases h2 : cB P fn.results.toList with
   | none => simp [h1, h2] at hc
   | some m =>
    simp only [h1, h2, Option.some.injEq] at hc
    subst hc
    refine calls_of_wp hf hb ?_
    refine (hex.goes hm).1 c h1 w O _ μ _ w _ rfl (entry hO hin hargs hlen) fun μ' a' w' hst => ?_
    obtain ⟨v, hv, hr⟩ := jV hst h2 hres
    have hsub : ∀ t, (Ro t).isSome = true → ∀ row, st'.r t = some row → μ' t = μ' t ∧ ∃ row', Ro t = some row' ∧ row'.sz = row.sz ∧ row.cs.length ≤ row'.cs.length := by
     intro t ht row hrow
     obtain ⟨r, hr⟩ := Option.isSome_iff_exists.1 ht
     have := (hro t r hr).1
     rw [hrow] at this
     cases this
     exact ⟨rfl, row, hr, rfl, Nat.le_refl _⟩
    have hO' : ∀ b, b < w'.heap.size → Av O μ' Ro b → Av O μ' st'.r b := by
     rintro b _ (h | ⟨t, row, l, g1, g2, g3⟩)
     ·exact .inl h
     ·exact .inr ⟨t, row, l, (hro t row g1).1, g2, g3⟩
    have hend : a'.defers = [] ∧ ∃ v, (results fn a'.tmps).run P w' = .ok v w' ∧ ∃ v' μ', Ending.returned v = .returned v' ∧ Fr (OM μ Ri) w w' ∧ U9 w' O μ' Ro ∧
      (∀ t row, Ri t = some row → μ' t = μ t ∧ ∃ row', Ro t = some row' ∧ row'.sz = row.sz ∧ row'.cs.length = row.cs.length) ∧
      (∀ t row l, Ro t = some row → Ri t = none → μ' t = some l → w.heap.size ≤ l.b) ∧ D8 w' (Av O μ' Ro) μ' Ro (aX rs) v' := by
     refine ⟨hst.dfr, v, hv, v, μ', rfl, hst.fr, ⟨fun t row ht => ?_, fun t t' row row' l l' g1 g2 => hst.inj t t' row row' l l' (hro t row g1).1 (hro t' row' g2).1, fun t row l g1 g2 => ⟨(hst.own t row l (hro t row g1).1 g2).1, hst.noB (hro t row g1).1 g2⟩⟩, fun t row ht => ?_, fun t row l g1 g2 g3 => ?_, ?_⟩
     ·obtain ⟨g1, g2⟩ := hro t row ht
      exact (hst.row t row g1).mono (fun t => (Ro t).isSome) (fun _ _ _ => rfl) hO' (fun u r hu hr => hsub u hu r hr) rfl (fun _ _ => rfl) g2
     ·exact ⟨(hst.keep t (by show (Ri t).isSome = true; rw [ht]; rfl)).1, hri t row ht⟩
     ·rcases (hst.own t row l (hro t row g1).1 g3).2 with h | ⟨t', row', l', k1, k2, k3⟩
      ·exact h
      ·have kk := (hst.keep t' (by show (Ri t').isSome = true; rw [k1]; rfl))
       obtain ⟨k4, r', k5⟩ := kk
       have := hst.inj t t' row r' l l' (hro t row g1).1 k5 g3 (k4.trans k2) k3.symm
       rw [this, k1] at g2
       cases g2
     ·refine hr.mono (fun t => (Ro t).isSome) (fun _ _ _ => rfl) hO' (fun u r hu hr => hsub u hu r hr) ?_
      cases rs with
      | nil => rfl
      | cons p r => cases r with
       | nil => simp only [PV.tks, Bool.and_true] at hrt; exact hrt
       | cons q r => simpa [aX, PV.tk] using hrt
    cases e with
    | normal => exact hend
    | ret => exact hend
    | exit id => exact absurd rfl (he id)
end
def After (K : St → Prop) (Q : Xt → St → Prop) : Xt → St → Prop
 | .normal, st => K st
 | .exit i, st => Q (.exit i) st
 | .ret, st => Q .ret st
theorem C9.refl [BA] {T : Nat → Bool} {st : St} : C9 T st st := fun _ _ _ _ μ _ _ _ h => ⟨μ, h⟩
theorem C9.trans [BA] {T : Nat → Bool} {a b c : St} (h : C9 T a b) (k : C9 T b c) : C9 T a c := by
 intro w0 O L n μ x w hL hx
 obtain ⟨μ1, h1⟩ := h w0 O L n μ x w hL hx
 exact k w0 O L n μ1 x w hL h1
def IC.un : IC → IC
 | .seq a b => .seq a.un b.un
 | .cond c a b => .cond c a.un b.un
 | .block id b => .block id b.un
 | .loop b => .loop b.un
 | .mark a => a.un
 | c => c
def Wp [BA] (P : Program) (T : Nat → Bool) : IC → St → (Xt → St → Prop) → Prop
 | .skip, st, Q => Q .normal st
 | .reg ios, st, Q => Wr P T ios st (Q .normal)
 | .regd m ios, st, Q => ∃ fin, ND P (ios.take m) st fin ∧ Wr P T (ios.drop m) fin (Q .normal)
 | .regf m F ds ios, st, Q => ∃ fin fin', ND P (ios.take m) st fin ∧ (∀ U ∈ kJ ds F, ∃ k, AnyW P T ds ios k ((List.range m).filter fun i => !U.contains i) (YZ ios U st fin) fin') ∧ Q .normal fin'
 | .rega ds ios, st, Q => ∃ fin, AnyW P T ds ios ios.length [] st fin ∧ Q .normal fin
 | .seq a b, st, Q => Wp P T a st (After (fun s => Wp P T b s Q) Q)
 | .cond c a b, st, Q => ∃ t, c.ev st.s = some (.bool t) ∧ (t = true → Wp P T a st Q) ∧ (t = false → Wp P T b st Q)
 | .block id b, st, Q => Wp P T b st (fun e s => Q (e.blk id) s)
 | .loop b, st, Q => ∃ e st', Ex P T (.loop b.un) st e st' ∧ Q e st'
 | .exit id, st, Q => Q (.exit id) st
 | .ret, st, Q => Q .ret st
 | .mark a, st, Q => Wp P T a st (fun e s => ∃ s', C9 T s s' ∧ Q e s')
section
variable {P : Program} {T : Nat → Bool}
theorem Wr.ex [BA] : ∀ {ios : List Ins} {st : St} {K : St → Prop}, Wr P T ios st K → ∃ st', Steps P T ios st st' ∧ K st'
 | [], st, K, h => ⟨st, .nil, h⟩
 | io :: r, st, K, ⟨st0, st1, hn, h1, h2⟩ => by
  obtain ⟨st', h3, h4⟩ := Wr.ex h2
  exact ⟨st', .norm hn (.cons h1 h3), h4⟩
theorem Wp.ex [BA] : ∀ {c : IC} {st : St} {Q : Xt → St → Prop}, Wp P T c st Q → ∃ e st', Ex P T c.un st e st' ∧ Q e st'
 | .skip, st, Q, h => ⟨.normal, st, .skip, h⟩
 | .reg ios, st, Q, h => by
  obtain ⟨st', h1, h2⟩ := Wr.ex h
  exact ⟨.normal, st', .reg h1, h2⟩
 | .regd m ios, st, Q, ⟨fin, h0, h⟩ => by
  obtain ⟨st', h1, h2⟩ := Wr.ex h
  exact ⟨.normal, st', .regd h0 h1, h2⟩
 | .regf m F ds ios, st, Q, ⟨fin, fin', h0, h1, h⟩ => ⟨.normal, fin', .regf h0 h1, h⟩
 | .rega ds ios, st, Q, ⟨fin, h0, h⟩ => ⟨.normal, fin, .rega h0, h⟩
 | .seq a b, st, Q, h => by
  obtain ⟨e, st1, h1, h2⟩ := Wp.ex (c := a) h
  cases e with
  | normal =>
   obtain ⟨e', st2, h3, h4⟩ := Wp.ex (c := b) h2
   exact ⟨e', st2, .seq h1 h3, h4⟩
  | exit i => exact ⟨_, st1, .seqx h1 (by simp), h2⟩
  | ret => exact ⟨_, st1, .seqx h1 (by simp), h2⟩
 | .cond c a b, st, Q, ⟨t, hc, h1, h2⟩ => by
  cases t with
  | true =>
   obtain ⟨e, st', h3, h4⟩ := Wp.ex (c := a) (h1 rfl)
   exact ⟨e, st', .cond true hc h3, h4⟩
  | false =>
   obtain ⟨e, st', h3, h4⟩ := Wp.ex (c := b) (h2 rfl)
   exact ⟨e, st', .cond false hc h3, h4⟩
 | .block id b, st, Q, h => by
  obtain ⟨e, st', h1, h2⟩ := Wp.ex (c := b) h
  exact ⟨_, st', .block h1, h2⟩
 | .loop b, st, Q, h => h
 | .exit id, st, Q, h => ⟨_, st, .exit, h⟩
 | .ret, st, Q, h => ⟨_, st, .ret, h⟩
 | .mark a, st, Q, h => by
  obtain ⟨e, st1, h1, s', h2, h3⟩ := Wp.ex (c := a) h
  exact ⟨e, s', .normr h1 h2, h3⟩
theorem Wr.mono [BA] : ∀ {ios : List Ins} {st : St} {K K' : St → Prop}, Wr P T ios st K → (∀ s, K s → K' s) → Wr P T ios st K'
 | [], _, _, _, h, hk => hk _ h
 | _ :: _, _, _, _, ⟨st0, st1, hn, h1, h2⟩, hk => ⟨st0, st1, hn, h1, Wr.mono h2 hk⟩
theorem After.mono {K K' : St → Prop} {Q Q' : Xt → St → Prop} (hk : ∀ s, K s → K' s) (hq : ∀ e s, Q e s → Q' e s) : ∀ e s, After K Q e s → After K' Q' e s
 | .normal, s, h => hk s h
 | .exit i, s, h => hq _ s h
 | .ret, s, h => hq _ s h
theorem Wp.mono [BA] : ∀ {c : IC} {st : St} {Q Q' : Xt → St → Prop}, Wp P T c st Q → (∀ e s, Q e s → Q' e s) → Wp P T c st Q'
 | .skip, st, Q, Q', h, hq => hq _ _ h
 | .reg ios, st, Q, Q', h, hq => Wr.mono h (hq _)
 | .regd m ios, st, Q, Q', ⟨fin, h0, h⟩, hq => ⟨fin, h0, Wr.mono h (hq _)⟩
 | .regf m F ds ios, st, Q, Q', ⟨fin, fin', h0, h1, h⟩, hq => ⟨fin, fin', h0, h1, hq _ _ h⟩
 | .rega ds ios, st, Q, Q', ⟨fin, h0, h⟩, hq => ⟨fin, h0, hq _ _ h⟩
 | .seq a b, st, Q, Q', h, hq => Wp.mono (c := a) h (After.mono (fun s hs => Wp.mono (c := b) hs hq) hq)
 | .cond c a b, st, Q, Q', ⟨t, hc, h1, h2⟩, hq => ⟨t, hc, fun ht => Wp.mono (h1 ht) hq, fun ht => Wp.mono (h2 ht) hq⟩
 | .block id b, st, Q, Q', h, hq => Wp.mono (c := b) h fun e s => hq _ s
 | .loop b, st, Q, Q', ⟨e, st', h1, h2⟩, hq => ⟨e, st', h1, hq _ _ h2⟩
 | .exit id, st, Q, Q', h, hq => hq _ _ h
 | .ret, st, Q, Q', h, hq => hq _ _ h
 | .mark a, st, Q, Q', h, hq => Wp.mono (c := a) h fun e s ⟨s', h1, h2⟩ => ⟨s', h1, hq e s' h2⟩
theorem CQ {r : Rows} : ∀ (t : Nat) (row : Row), AC t = some row → r t = none := fun t row h => by simp [AC] at h
theorem wn [BA] {io : Ins} {r : List Ins} {st st1 : St} {K : St → Prop} (hn : C9 T st st1) (k : Wr P T (io :: r) st1 K) : Wr P T (io :: r) st K := by
 obtain ⟨st0, st', h1, h2, h3⟩ := k
 exact ⟨st0, st', hn.trans h1, h2, h3⟩
theorem wp [BA] {d : Option Nat} {op : KY} {r : List Ins} {st : St} {K : St → Prop} {p : PV} (h : pop st.s st.r op = some p) (k : Wr P T r (st.put d p) K) : Wr P T (⟨d, op, none⟩ :: r) st K :=
 ⟨_, _, .refl, .run rfl (.pur p AC (.pop h) CQ), k⟩
theorem N9 {r : Rows} {t : Nat} {x : Row} (h : r t = none) : ∀ u row, upd AC t (some x) u = some row → r u = none := by
 intro u row hu
 by_cases hut : u = t
 ·rw [hut]; exact h
 ·rw [upd_ne _ _ hut] at hu; cases hu
def Bb (sz : Nat) : List PV → Bool
 | [] => true
 | p :: r => Nat.beq p.cells.length sz && (p.cells.all PV.one && (p.free && Bb sz r))
theorem MJ [BA] {sz : Nat} : ∀ {l : List PV}, Bb sz l = true → ∀ p ∈ l, p.cells.length = sz ∧ (∀ q ∈ p.cells, q.one = true) ∧ p.free = true
 | [], _, p, hp => by cases hp
 | x :: r, h, p, hp => by
  simp only [Bb, Bool.and_eq_true, List.all_eq_true] at h
  obtain ⟨h1, h2, h3, h4⟩ := h
  rcases List.mem_cons.1 hp with e | e
  ·subst e; exact ⟨Nat.eq_of_beq_eq_true h1, h2, h3⟩
  ·exact MJ h4 p e
theorem UE [BA] (t : Nat) {d : Option Nat} {sz : Nat} {xs : List DD} {st : St} {ps : List PV} (h : evs st.s xs = some ps) (he : Bb sz ps = true) (ht : st.r t = none) (hty : IP t = none := by rfl) :
  XZ P T (.bsl sz xs) d st (St.put ⟨st.s, upd st.r t (some ⟨sz, true, ps⟩)⟩ d (.slr t 0 ps.length)) := by
 rw [← PG]
 exact .pur _ _ (.bsl ps t h (MJ he) hty) (N9 ht)
theorem F8 [BA] (t : Nat) {d : Option Nat} {e : Nat} {x : DD} {st : St} {p : PV} (h : x.ev st.s = some p) (h0 : Nat.ble 1 p.cells.length = true) (h1 : p.cells.all PV.one = true) (ht : st.r t = none) (hty : uB t e = true) :
  XZ P T (.box e x) d st (St.put ⟨st.s, upd st.r t (some ⟨p.cells.length, false, [p]⟩)⟩ d (.ptr t 0 0)) := by
 rw [← PG]
 exact .pur _ _ (.box p t h (Nat.le_of_ble_eq_true h0) (List.all_eq_true.1 h1) hty) (N9 ht)
theorem mU [BA] (t : Nat) {d : Option Nat} {x : DD} {st : St} {b : List UInt8} (h : x.ev st.s = some (.str b)) (ht : st.r t = none) (hty : IP t = none := by rfl) : XZ P T (.cvs x) d st (St.put ⟨st.s, upd st.r t (some ⟨1, true, JN b⟩)⟩ d (.slr t 0 b.length)) := by
 rw [← PG]
 exact .pur _ _ (.cvs b t h hty) (N9 ht)
theorem omks [BA] (t : Nat) {d : Option Nat} {sz bytes : Nat} {z : PV} {x : DD} {st : St} {k : IntKind} {n : Int} {m : Nat} (h : x.ev st.s = some (.int k n)) (hn : n = (m : Int)) (hb : bytes * m ≤ 281474976710656) (hm : m ≤ 9223372036854775807) (hz : z.free = true) (ht : st.r t = none) (hty : IP t = none := by rfl) :
  XZ P T (.mks sz bytes z x) d st (St.put ⟨st.s, upd st.r t (some ⟨sz, true, List.replicate m z⟩)⟩ d (.slr t 0 m)) := by
 rw [← PG]
 subst hn
 exact .pur _ _ (.mks k m t h hb hm hz hty) (N9 ht)
theorem oapp [BA] (t' : Nat) {d : Option Nat} {e sz bytes : Nat} {x y : DD} {st : St} {p q : PV} {tok : Option Nat} {xs ys : List PV} (hp : x.ev st.s = some p) (hq : y.ev st.s = some q) (hb : VT st.r sz p = some (tok, xs)) (he : UR st.r sz q = some ys)
  (hT : ∀ t, tok = some t → T t = false) (hb0 : Nat.ble 1 bytes = true) (hle : (xs.length + ys.length) * bytes ≤ 140737488355328) (ht' : st.r t' = none) (hty : UZ t' e p = true := by rfl) : XZ P T (.app e sz bytes x y) d st (St.put (XX st tok t' ⟨sz, true, xs ++ ys⟩) d (.slr t' 0 (xs.length + ys.length))) :=
 .app p q tok xs ys t' hp hq hb hT he (Nat.le_of_ble_eq_true hb0) hle ht' hty
theorem oaps [BA] (t' : Nat) {d : Option Nat} {e : Nat} {x y : DD} {st : St} {p : PV} {b : List UInt8} {tok : Option Nat} {xs : List PV} (hp : x.ev st.s = some p) (hq : y.ev st.s = some (.str b)) (hb : VT st.r 1 p = some (tok, xs))
  (hT : ∀ t, tok = some t → T t = false) (hle : xs.length + b.length ≤ 140737488355328) (ht' : st.r t' = none) (hty : UZ t' e p = true := by rfl) : XZ P T (.aps e x y) d st (St.put (XX st tok t' ⟨1, true, xs ++ JN b⟩) d (.slr t' 0 (xs.length + b.length))) :=
 .aps p b tok xs t' hp hq hb hT hle ht' hty
theorem osto [BA] {d : Option Nat} {sz : Nat} {p q : DD} {st : St} {t i off : Nat} {row : Row} {x y : PV} (hp : p.ev st.s = some (.ptr t i off)) (hq : q.ev st.s = some x) (ht : st.r t = some row) (hi : row.cs[i]? = some y)
  (hx : Nat.beq x.cells.length sz = true) (h0 : Nat.ble 1 sz = true) (h1 : x.cells.all PV.one = true) (hfit : Nat.ble (off + sz) row.sz = true) (hpr : row.pr = true → x.free = true) :
  XZ P T (.store sz p q) d st (St.put ⟨st.s, upd st.r t (some ⟨row.sz, row.pr, row.cs.set i (uH y off x.cells)⟩)⟩ d .undef) :=
 .store t i off row x y hp hq ht hi (Nat.eq_of_beq_eq_true hx) (Nat.le_of_ble_eq_true h0) (List.all_eq_true.1 h1) (Nat.le_of_ble_eq_true hfit) hpr
theorem ocall [BA] {d : Option Nat} {f : FuncId} {xs : List DD} {st : St} {ps qs : List PV} {res : PV} (h : evs st.s xs = some ps) (hq : ps.map (PV.bor AC st.r) = qs) (hs : Sat P f AC qs res AC) (hf : (ps.all PV.free || res.nosl) = true) (ht : res.free = true)
  (htk : PV.tks (fun t => (st.r t).isSome) ps = true) : XZ P T (.call f xs) d st (st.put d res) := by
 refine .pur res AC (.call ps res AC h ?_ (hq ▸ hs) ht (fun t row h => by simp [AC] at h) (PV.tks_mem htk)) CQ
 rw [Bool.or_eq_true, List.all_eq_true] at hf
 rcases hf with hf | hf
 ·exact .inl fun p hp => hf p hp
 ·exact .inr ⟨hf, fun t row h => by simp [AC] at h⟩
theorem opop [BA] {d : Option Nat} {op : KY} {st : St} {p : PV} (h : pop st.s st.r op = some p) : XZ P T op d st (st.put d p) := .pur p AC (.pop h) CQ
theorem gy {s : EY} {g : Nat} {c b : Bool} (h : s g = some (.bool c)) (hc : c = b) : UF s (some (g, b)) = some true := by
 subst hc
 simp [UF, h]
theorem gn {s : EY} {g : Nat} {c b : Bool} (h : s g = some (.bool c)) (hc : c = !b) : UF s (some (g, b)) = some false := by
 subst hc
 cases b <;> simp [UF, h]
theorem gu {s : EY} {g : Nat} {b : Bool} (h : s g = some .undef) : UF s (some (g, b)) = some false := by simp [UF, h]
theorem Wr.app [BA] : ∀ {l m : List Ins} {st : St} {K : St → Prop}, Wr P T l st (fun s => Wr P T m s K) → Wr P T (l ++ m) st K
 | [], _, _, _, h => h
 | _ :: _, _, _, _, ⟨s0, s1, hn, hs, h⟩ => ⟨s0, s1, hn, hs, Wr.app h⟩
def jG [BA] (P : Program) : List Ins → St → (St → Prop) → Prop
 | [], st, K => K st
 | io :: r, st, K => (UF st.s io.guard = some true ∧ ∃ p N, PP P io.op st.s st.r p N ∧ (∀ t row, N t = some row → st.r t = none) ∧ jG P r (St.put ⟨st.s, N7 N st.r⟩ io.dst p) K) ∨
  (UF st.s io.guard = some false ∧ jG P r (st.put io.dst .undef) K)
theorem jG.steps [BA] : ∀ {l : List Ins} {st : St} {K : St → Prop}, jG P l st K → ∃ fin, ND P l st fin ∧ K fin
 | [], st, K, h => ⟨st, .nil, h⟩
 | io :: r, st, K, .inl ⟨hg, p, N, hp, hn, h⟩ => by
  obtain ⟨fin, h1, h2⟩ := jG.steps h
  exact ⟨fin, .run p N hg hp hn h1, h2⟩
 | io :: r, st, K, .inr ⟨hg, h⟩ => by
  obtain ⟨fin, h1, h2⟩ := jG.steps h
  exact ⟨fin, .skip hg h1, h2⟩
theorem WU [BA] {d : Option Nat} {op : KY} {g : Nat × Bool} {r : List Ins} {st : St} {K : St → Prop} (hg : UF st.s (some g) = some false) (k : jG P r (st.put d .undef) K) : jG P (⟨d, op, some g⟩ :: r) st K := .inr ⟨hg, k⟩
end
end Go.Vd
end
