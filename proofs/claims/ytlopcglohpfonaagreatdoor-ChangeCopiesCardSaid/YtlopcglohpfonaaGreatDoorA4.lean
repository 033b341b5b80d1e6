/- A part of the proof: a logic of values, rows and steps. -/
import Derived.Test.YtlopcglohpfonaaGreatDoorA3
import Derived.SliceStrings
import Derived.Shelf.Strings.OnBuilder
import Derived.Lib.Bytealg
import Derived.Shelf.Strconv.Itoa4
import Derived.Shelf.Strconv.ErrVarParseInt
import Derived.Laws.AppendOwn
import Derived.Shelf.SlicesE.Clone
section
set_option linter.unusedVariables false
set_option linter.unusedSimpArgs false
namespace Go.Vd
open Go.RowKit
def AX {α : Type} : List (Nat × α) → Nat → Option α
 | [], _ => none
 | (k, v) :: r, n => bif Nat.beq n k then some v else AX r n
def JK {α : Type} (f : Nat → Option α) : List (Nat × α) → Prop
 | [] => True
 | (k, v) :: r => f k = some v ∧ JK f r
theorem JK.get [BA] {α : Type} {f : Nat → Option α} : ∀ {l : List (Nat × α)}, JK f l → ∀ k v, AX l k = some v → f k = some v
 | [], _, k, v, h => by simp [AX] at h
 | (k', v') :: r, ⟨h1, h2⟩, k, v, h => by
  unfold AX at h
  cases hk : Nat.beq k k' with
  | true => rw [hk] at h; cases h; rw [Nat.eq_of_beq_eq_true hk]; exact h1
  | false => rw [hk] at h; exact JK.get h2 k v h
theorem NW [BA] {α : Type} : ∀ {l : List (Nat × α)} {k : Nat} {v : α}, AX l k = some v → v ∈ l.map (·.2)
 | [], k, v, h => by simp [AX] at h
 | (k', v') :: r, k, v, h => by
  unfold AX at h
  cases hk : Nat.beq k k' with
  | true => rw [hk] at h; cases h; simp
  | false => rw [hk] at h; simp only [List.map_cons]; exact List.mem_cons_of_mem _ (NW h)
def IK (f : Nat → Bool) : List Row → Bool
 | [] => true
 | r :: rs => r.tk f && IK f rs
theorem JY [BA] {f : Nat → Bool} : ∀ {l : List Row}, IK f l = true → ∀ r ∈ l, r.tk f = true
 | [], _, r, h => by cases h
 | x :: xs, h, r, hr => by
  rw [IK, Bool.and_eq_true] at h
  rcases List.mem_cons.1 hr with e | e
  ·rw [e]; exact h.1
  ·exact JY h.2 r e
section
variable {P : Program} {T : Nat → Bool}
theorem yP [BA] {st : St} (l : List (Nat × PV)) (m : List (Nat × Row)) (hs : JK st.s l) (hr : JK st.r m) (h1 : PV.tks (fun t => (AX m t).isSome) (l.map (·.2)) = true) (h2 : IK (fun t => (AX m t).isSome) (m.map (·.2)) = true)
  (hT : ∀ t, T t = true → (AX m t).isSome = true) : C9 T st ⟨AX l, AX m⟩ := by
 intro w0 O L n μ a w hL h
 refine ⟨μ, h.canon (fun k p hk => ⟨hs.get k p hk, PV.tks_mem h1 p (NW hk)⟩) (fun t row ht => ⟨hr.get t row ht, JY h2 row (NW ht)⟩) fun t ht => hT t (hL ▸ ht)⟩
theorem freeze [BA] {st : St} (t : Nat) (row : Row) (ht : st.r t = some row) (hpr : row.pr = true) (hT : T t = false) : C9 T st ⟨Cm t row st.s, WJ t row st.r⟩ := by
 intro w0 O L n μ a w hL h
 exact ⟨μ, h.freeze t row ht hpr (hL ▸ hT)⟩
def rns (t t' : Nat) : Nat → Nat → Nat → PV := fun u lo n => bif Nat.beq u t then .slr t' lo n else .slr u lo n
def rnp (t t' : Nat) : Nat → Nat → Nat → PV := fun u i o => bif Nat.beq u t then .ptr t' i o else .ptr u i o
def PV.ren (t t' : Nat) (p : PV) : PV := p.map (rns t t') (rnp t t')
def Row.ren (t t' : Nat) (r : Row) : Row := bif r.pr then r else ⟨r.sz, r.pr, r.cs.map (PV.ren t t')⟩
def renS (t t' : Nat) (s : EY) : EY := fun k => (s k).map (PV.ren t t')
def YJ (t t' : Nat) (r : Rows) : Rows := fun u => bif Nat.beq u t' then (r t).map (Row.ren t t') else bif Nat.beq u t then none else (r u).map (Row.ren t t')
theorem iF (t t' u lo n : Nat) : (rns t t' u lo n).one = true := by unfold rns; cases Nat.beq u t <;> rfl
theorem iG (t t' u lo n : Nat) : (rnp t t' u lo n).one = true := by unfold rnp; cases Nat.beq u t <;> rfl
theorem PV.ren_one [BA] {t t' : Nat} {p : PV} (h : p.one = true) : (p.ren t t').one = true := PV.map_one (iF t t') (iG t t') p h
theorem PV.ren_cells [BA] (t t' : Nat) (p : PV) : (p.ren t t').cells = p.cells.map (PV.ren t t') := PV.map_cells (iF t t') (iG t t') p
theorem Row.ren_sz (t t' : Nat) (r : Row) : (r.ren t t').sz = r.sz := by unfold Row.ren; cases r.pr <;> rfl
theorem Row.ren_pr (t t' : Nat) (r : Row) : (r.ren t t').pr = r.pr := by unfold Row.ren; cases h : r.pr <;> simp [h]
theorem Row.ren_len (t t' : Nat) (r : Row) : (r.ren t t').cs.length = r.cs.length := by unfold Row.ren; cases r.pr <;> simp
theorem uS [BA] {t t' : Nat} {R : Rows} {r : Row} (h : R t = some r) : YJ t t' R t' = some (r.ren t t') := by unfold YJ; rw [FM, cond_true, h]; rfl
theorem oZ [BA] {t t' u : Nat} {R : Rows} {r : Row} (hu : u ≠ t) (hu' : u ≠ t') (h : R u = some r) : YJ t t' R u = some (r.ren t t') := by
 unfold YJ
 rw [E8 hu', cond_false, E8 hu, cond_false, h]
 rfl
theorem uT [BA] {t t' u : Nat} {R : Rows} {r : Row} (h : YJ t t' R u = some r) : ∃ r', r = r'.ren t t' ∧ ((u = t' ∧ R t = some r') ∨ (u ≠ t' ∧ u ≠ t ∧ R u = some r')) := by
 unfold YJ at h
 by_cases hu : u = t'
 ·rw [hu, FM, cond_true] at h
  obtain ⟨r', hr, rfl⟩ := Option.map_eq_some_iff.1 h
  exact ⟨r', rfl, .inl ⟨hu, hr⟩⟩
 ·rw [E8 hu, cond_false] at h
  by_cases hu' : u = t
  ·rw [hu', FM] at h; cases h
  ·rw [E8 hu', cond_false] at h
   obtain ⟨r', hr, rfl⟩ := Option.map_eq_some_iff.1 h
   exact ⟨r', rfl, .inr ⟨hu, hu', hr⟩⟩
theorem BJ.rename [BA] {w0 w : World} {O : Nat → Prop} {L : MN} {n : Nat} {μ : Mu} {st : St} {a : Act} (h : BJ w0 O L n μ st a w) (t t' : Nat) (ht' : st.r t' = none) (hT : L.T t = false) (hty : IP t' = IP t) :
  BJ w0 O L n (upd μ t' (μ t)) ⟨renS t t' st.s, YJ t t' st.r⟩ a w := by
 have hmu : ∀ {u : Nat} {r : Row}, YJ t t' st.r u = some r → ∃ v r', r = r'.ren t t' ∧ st.r v = some r' ∧ upd μ t' (μ t) u = μ v ∧ ((u = t' ∧ v = t) ∨ (u ≠ t' ∧ u = v ∧ u ≠ t)) := by
  intro u r hr
  obtain ⟨r', e, ⟨h1, h2⟩ | ⟨h1, h2, h3⟩⟩ := uT hr
  ·exact ⟨t, r', e, h2, by rw [h1, upd_same], .inl ⟨h1, rfl⟩⟩
  ·exact ⟨u, r', e, h3, upd_ne _ _ h1, .inr ⟨h1, rfl, h2⟩⟩
 have hO : ∀ b, Av O (upd μ t' (μ t)) (YJ t t' st.r) b → Av O μ st.r b := by
  rintro b (h1 | ⟨u, r, l, h1, h2, h3⟩)
  ·exact .inl h1
  ·obtain ⟨v, r', _, g1, g2, _⟩ := hmu h1
   exact .inr ⟨v, r', l, g1, g2 ▸ h2, h3⟩
 have hnt : ∀ {u : Nat} {r : Row}, st.r u = some r → u ≠ t' := fun hr e => by rw [e, ht'] at hr; cases hr
 have hR : ∀ u r, st.r u = some r → ∃ v r', YJ t t' st.r v = some r' ∧ r'.sz = r.sz ∧ r'.cs.length = r.cs.length ∧ upd μ t' (μ t) v = μ u ∧ v = (bif Nat.beq u t then t' else u) := by
  intro u r hr
  by_cases hu : u = t
  ·subst hu; exact ⟨t', _, uS hr, Row.ren_sz _ _ _, Row.ren_len _ _ _, upd_same _ _ _, by rw [FM]; rfl⟩
  ·exact ⟨u, _, oZ hu (hnt hr) hr, Row.ren_sz _ _ _, Row.ren_len _ _ _, upd_ne _ _ (hnt hr), by rw [E8 hu]; rfl⟩
 have key : ∀ {p : PV} {v : Value}, D8 w (Av O μ st.r) μ st.r p v → D8 w (Av O (upd μ t' (μ t)) (YJ t t' st.r)) (upd μ t' (μ t)) (YJ t t' st.r) (p.ren t t') v := by
  intro p v hp
  refine D8.map (fs := rns t t') (fp := rnp t t') (fun _ _ _ => rfl) (fun b _ hb => hO b hb) (iF t t') (iG t t') (fun u lo m v hv => ?_) (fun u i o v hv => ?_) hp
  ·have hrn : rns t t' u lo m = .slr (bif Nat.beq u t then t' else u) lo m := by unfold rns; cases Nat.beq u t <;> rfl
   rw [hrn]
   cases hv with
   | base _ _ h => cases h
   | slr _ _ _ c r l hr hm hn hc hroom =>
    obtain ⟨v, r', h2, h3, h4, h5, h6⟩ := hR u r hr
    rw [← h6, ← h3]
    exact .slr v lo m c r' l h2 (h5.trans hm) (by omega) hc (by rw [h3]; exact hroom)
   | slr0 _ _ r A hr hn =>
    obtain ⟨v, r', h2, h3, h4, h5, h6⟩ := hR u r hr
    rw [← h6]
    exact .slr0 v lo r' A h2 (by omega)
  ·have hrn : rnp t t' u i o = .ptr (bif Nat.beq u t then t' else u) i o := by unfold rnp; cases Nat.beq u t <;> rfl
   rw [hrn]
   cases hv with
   | base _ _ h => cases h
   | ptr _ _ _ r l hr hm hi ho =>
    obtain ⟨v, r', h2, h3, h4, h5, h6⟩ := hR u r hr
    rw [← h6, ← h3]
    exact .ptr v i o r' l h2 (h5.trans hm) (by omega) (by omega)
 refine ⟨h.dfr, h.size, h.fr, h.out, fun k p hk => ?_, fun u r hr => ?_, ?_, ?_, fun u hu => ?_⟩
 ·obtain ⟨q, hq, rfl⟩ := Option.map_eq_some_iff.1 hk
  obtain ⟨v, hv, hrel⟩ := h.slot k q hq
  exact ⟨v, hv, key hrel⟩
 ·obtain ⟨v, r', rfl, hr', hm, hcs⟩ := hmu hr
  have hrr := h.row v r' hr'
  refine ⟨by rw [Row.ren_sz]; exact hrr.sz, fun x hx => ?_, fun hn => ?_, fun l hl => ?_, fun k hk l hl => by
   rw [hm] at hl
   have hk' : IP v = some k := by
    rcases hcs with ⟨c1, c2⟩ | ⟨_, c2, _⟩
    ·rw [c2, ← hty, ← c1]; exact hk
    ·rw [← c2]; exact hk
   obtain ⟨e1, arr, fz, e2, e3⟩ := hrr.ty k hk' l hl
   exact ⟨e1, arr, fz, e2, by rw [Row.ren_pr, Row.ren_sz]; exact e3⟩⟩
  ·rw [Row.ren_sz]
   unfold Row.ren at hx
   cases hp : r'.pr with
   | true => rw [hp, cond_true] at hx; exact hrr.el x hx
   | false =>
    rw [hp, cond_false] at hx
    obtain ⟨y, hy, rfl⟩ := List.mem_map.1 hx
    obtain ⟨h1, h2⟩ := hrr.el y hy
    rw [PV.ren_cells]
    refine ⟨by simpa using h1, fun p hp' => ?_⟩
    obtain ⟨q, hq, rfl⟩ := List.mem_map.1 hp'
    exact PV.ren_one (h2 q hq)
  ·have := hrr.non (hm ▸ hn)
   have hl := Row.ren_len t t' r'
   rw [this] at hl
   exact List.eq_nil_of_length_eq_zero (by simpa using hl)
  ·rw [hm] at hl
   obtain ⟨arr, ety, fz, h1, h2, h3, h4, h5⟩ := hrr.lie l hl
   refine ⟨arr, ety, fz, h1, h2, by rw [Row.ren_len, Row.ren_sz]; exact h3, h4, fun i x j p hi hj => ?_⟩
   rw [Row.ren_sz, Row.ren_pr]
   unfold Row.ren at hi
   cases hp : r'.pr with
   | true =>
    rw [hp, cond_true] at hi
    obtain ⟨v, hv, hc⟩ := h5 i x j p hi hj
    refine ⟨v, hv, ?_⟩
    rw [hp] at hc
    unfold D6 at hc ⊢
    rw [if_pos rfl] at hc ⊢
    exact hc.frame (fun _ _ _ => rfl) (fun b _ hb => hO b hb)
   | false =>
    rw [hp, cond_false] at hi
    rw [List.getElem?_map] at hi
    obtain ⟨y, hy, rfl⟩ := Option.map_eq_some_iff.1 hi
    rw [PV.ren_cells, List.getElem?_map] at hj
    obtain ⟨q, hq, rfl⟩ := Option.map_eq_some_iff.1 hj
    obtain ⟨v, hv, hc⟩ := h5 i y j q hy hq
    refine ⟨v, hv, ?_⟩
    rw [hp] at hc
    unfold D6 at hc ⊢
    rw [if_neg (by simp)] at hc ⊢
    exact key hc
 ·intro u u' r r' l l' h1 h2 h3 h4 h5
  obtain ⟨v, s, _, g1, g2, g3⟩ := hmu h1
  obtain ⟨v', s', _, k1, k2, k3⟩ := hmu h2
  have := h.inj v v' s s' l l' g1 k1 (g2 ▸ h3) (k2 ▸ h4) h5
  rcases g3 with ⟨a1, a2⟩ | ⟨a1, a2, a3⟩
  ·rcases k3 with ⟨b1, b2⟩ | ⟨b1, b2, b3⟩
   ·rw [a1, b1]
   ·exact absurd (b2.trans (this.symm.trans a2)) b3
  ·rcases k3 with ⟨b1, b2⟩ | ⟨b1, b2, b3⟩
   ·exact absurd (a2.trans (this.trans b2)) a3
   ·rw [a2, b2, this]
 ·intro u r l h1 h2
  obtain ⟨v, s, _, g1, g2, _⟩ := hmu h1
  exact h.own v s l g1 (g2 ▸ h2)
 ·obtain ⟨h1, r, h2⟩ := h.keep u hu
  have hne : u ≠ t := fun e => by rw [e, hT] at hu; cases hu
  exact ⟨(upd_ne _ _ (hnt h2)).trans h1, _, oZ hne (hnt h2) h2⟩
theorem rename [BA] {st : St} (t t' : Nat) (ht' : st.r t' = none) (hT : T t = false) (hty : IP t' = IP t := by rfl) : C9 T st ⟨renS t t' st.s, YJ t t' st.r⟩ := by
 intro w0 O L n μ a w hL h
 exact ⟨_, h.rename t t' ht' (hL ▸ hT) hty⟩
theorem kE [BA] {α : Type} : ∀ {l : List (Nat × α)} {k : Nat} {v : α}, (k, v) ∈ l → ∃ u, AX l k = some u
 | [], k, v, h => by cases h
 | (k', v') :: r, k, v, h => by
  unfold AX
  cases hk : Nat.beq k k' with
  | true => exact ⟨v', rfl⟩
  | false =>
   rcases List.mem_cons.1 h with e | e
   ·cases e; rw [FM] at hk; cases hk
   ·exact kE e
theorem JK.mem [BA] {α : Type} {f : Nat → Option α} : ∀ {l : List (Nat × α)}, JK f l → ∀ k v, (k, v) ∈ l → f k = some v
 | [], _, k, v, h => by cases h
 | (k', v') :: r, ⟨h1, h2⟩, k, v, h => by
  rcases List.mem_cons.1 h with e | e
  ·cases e; exact h1
  ·exact JK.mem h2 k v e
theorem JK.of [BA] {α : Type} {f : Nat → Option α} : ∀ {l : List (Nat × α)}, (∀ k v, (k, v) ∈ l → f k = some v) → JK f l
 | [], _ => trivial
 | (k, v) :: r, h => ⟨h k v (by simp), JK.of fun k' v' h' => h k' v' (by simp [h'])⟩
theorem JK.own [BA] {α : Type} {f : Nat → Option α} {l : List (Nat × α)} (h : JK f l) : JK (AX l) l := by
 refine JK.of fun k v hm => ?_
 obtain ⟨u, hu⟩ := kE hm
 rw [hu, ← h.get k u hu, h.mem k v hm]
theorem Lb [BA] {st : St} {l : List (Nat × PV)} {m : List (Nat × Row)} (hs : JK st.s l) (hr : JK st.r m) (h1 : PV.tks (fun t => (AX m t).isSome) (l.map (·.2)) = true) (h2 : IK (fun t => (AX m t).isSome) (m.map (·.2)) = true) : C9 (fun _ => false) st ⟨AX l, AX m⟩ :=
 yP (T := fun _ => false) l m hs hr h1 h2 nofun
theorem fC [BA] (k t sz : Nat) (pr : Bool) {st : St} (hk : st.s k = some .nl) (ht : st.r t = none) (hz : Nat.ble 1 sz = true) : C9 T st ⟨upd st.s k (some (.slr t 0 0)), upd st.r t (some ⟨sz, pr, []⟩)⟩ := by
 intro w0 O L n μ a w hL h
 have h1 := h.empty t ht sz (Nat.le_of_ble_eq_true hz) pr
 refine ⟨_, h1.dfr, h1.size, h1.fr, h1.out, fun j p hj => ?_, h1.row, h1.inj, h1.own, h1.keep⟩
 by_cases hjk : j = k
 ·subst hjk
  simp only [upd_same, Option.some.injEq] at hj
  subst hj
  obtain ⟨v, hv, hr⟩ := h.slot j .nl hk
  refine ⟨v, hv, ?_⟩
  cases hr with
  | base _ _ h => cases h with | nl => exact .slr0 t 0 ⟨sz, pr, []⟩ none (upd_same _ _ _) (Nat.le_refl _)
 ·simp only [upd_ne _ _ hjk] at hj
  exact h1.slot j p hj
end
def byte (n : Int) : UInt8 := UInt8.ofNat (n % 256).toNat
theorem byte_toNat (n : Int) : ((byte n).toNat : Int) = n % 256 := by
 unfold byte
 rw [UInt8.toNat_ofNat']
 have h1 := Int.emod_nonneg n (show (256 : Int) ≠ 0 by decide)
 have h2 := Int.emod_lt_of_pos n (show (0 : Int) < 256 by decide)
 omega
theorem X6 [BA] (n : Int) : IntKind.u8.wrap n = ((byte n).toNat : Int) := by
 rw [byte_toNat]
 simp [IntKind.wrap, IntKind.bits, IntKind.signed]
theorem kU {n : Int} (h1 : -9223372036854775808 ≤ n) (h2 : n < 9223372036854775808) : IntKind.i64.wrap n = n := by
 change (if (true && decide (n % 18446744073709551616 ≥ 9223372036854775808)) = true then n % 18446744073709551616 - 18446744073709551616 else n % 18446744073709551616) = n
 simp only [Bool.true_and, decide_eq_true_eq]
 split <;> omega
theorem X7 (b : UInt8) : BitVec.ofInt 8 (b.toNat : Int) = b.toBitVec := by
 apply BitVec.eq_of_toNat_eq
 simp [BitVec.toNat_ofInt]
theorem u8_and [BA] (a b : UInt8) : wW .and .u8 (a.toNat : Int) (b.toNat : Int) = some (.int .u8 ((a &&& b).toNat : Int)) := by
 change some (PV.int .u8 (IntKind.u8.wrap ((BitVec.ofInt 8 (a.toNat : Int) &&& BitVec.ofInt 8 (b.toNat : Int)).toNat : Int))) = _
 rw [X7, X7]
 refine congrArg (fun x => some (PV.int .u8 x)) ?_
 change IntKind.u8.wrap (((a &&& b).toNat : Nat) : Int) = _
 rw [X6, byte_toNat]
 have := (a &&& b).toNat_lt
 omega
theorem u8_or [BA] (a b : UInt8) : wW .or .u8 (a.toNat : Int) (b.toNat : Int) = some (.int .u8 ((a ||| b).toNat : Int)) := by
 change some (PV.int .u8 (IntKind.u8.wrap ((BitVec.ofInt 8 (a.toNat : Int) ||| BitVec.ofInt 8 (b.toNat : Int)).toNat : Int))) = _
 rw [X7, X7]
 refine congrArg (fun x => some (PV.int .u8 x)) ?_
 change IntKind.u8.wrap (((a ||| b).toNat : Nat) : Int) = _
 rw [X6, byte_toNat]
 have := (a ||| b).toNat_lt
 omega
theorem vs {a b : List UInt8} (h : a = b) : some (PV.str a) = some (PV.str b) := by rw [h]
theorem lL (l : List UInt8) : (JN l).map PV.byte = l := by
 induction l with
 | nil => rfl
 | cons x r ih =>
  simp only [JN, List.map_cons, PV.byte, List.cons.injEq] at ih ⊢
  refine ⟨?_, ih⟩
  simp
section
variable {P : Program} {T : Nat → Bool} {d : Option Nat} {st : St}
end
theorem o6 [BA] (a b : UInt8) : YR .and (.int .u8 (a.toNat : Int)) (.int .u8 (b.toNat : Int)) = some (.int .u8 ((a &&& b).toNat : Int)) := u8_and a b
theorem tC [BA] (a b : UInt8) : YR .or (.int .u8 (a.toNat : Int)) (.int .u8 (b.toNat : Int)) = some (.int .u8 ((a ||| b).toNat : Int)) := u8_or a b
theorem Dy {μ : Mu} {b : Nat} (h : OM μ AC b) : False := by
 obtain ⟨t, row, l, h1, _⟩ := h
 simp [AC] at h1
theorem Sat.below [BA] {P : Program} {f : FuncId} {ps : List PV} (h : Sat P f AC ps (.bool true) AC) {W : World} {vs : List Value} (hargs : EK W (fun _ => False) (fun _ => none) AC ps vs) (hok : BA.ok W) :
  Calls P f vs.toArray W fun e W' => e = .returned (.bool true) ∧ Below W.heap.size W W' := by
 have hav : ∀ (μ : Mu) b, Av (fun _ => False) μ AC b → False := fun μ b hb => hb.elim id Dy
 refine (h (fun _ => False) (fun _ => none) W vs ⟨fun b hb => hb.elim, hok⟩ ⟨fun t row ht => by simp [AC] at ht, fun t t' row row' l l' ht => by simp [AC] at ht, fun t row l ht => by simp [AC] at ht⟩ ⟨hargs.len, fun j p v hj hv => ?_⟩).mono ?_
 ·exact (hargs.rel j p v hj hv).mono (fun _ => true) (fun _ _ _ => rfl) (fun b _ hb => (hav _ b hb).elim) (fun t row _ ht => by simp [AC] at ht) (PV.tk_true _)
 ·rintro e w' ⟨v, μ', rfl, hfr, _, _, _, hr⟩
  have := hr.bool_inv
  subst this
  exact ⟨rfl, hfr.os, hfr.tape, hfr.output, hfr.size, fun b hb => hfr.block b hb Dy⟩
theorem sU {W : World} : EK W (fun _ => False) (fun _ => none) AC [] [] := ⟨rfl, fun j p v hj => by simp at hj⟩
theorem nY {W : World} {p : PV} {v : Value} {ps : List PV} {vs : List Value} (h : DZ W (fun _ => False) p v) (k : EK W (fun _ => False) (fun _ => none) AC ps vs) : EK W (fun _ => False) (fun _ => none) AC (p :: ps) (v :: vs) := by
 refine ⟨by simp [k.len], fun j q u hj hu => ?_⟩
 cases j with
 | zero => simp at hj hu; subst hj; subst hu; exact .base _ _ h
 | succ j => exact k.rel j q u (by simpa using hj) (by simpa using hu)
theorem Am {w : World} {O : Nat → Prop} (s : ByteArray) : DZ w O (.str s.data.toList) (.string s) := by
 have h := DZ.str (w := w) (O := O) s.data.toList
 rwa [Em] at h
def PV.lit : PV → Option Value
 | .int k n => some (.int k n)
 | .bool b => some (.bool b)
 | .str s => some (.string ⟨s.toArray⟩)
 | _ => none
def lits : List PV → Option (List Value)
 | [] => some []
 | p :: r => match p.lit, lits r with
  | some v, some q => some (v :: q)
  | _, _ => none
theorem Bh {w : World} {O : Nat → Prop} {p : PV} {v : Value} (h : p.lit = some v) : DZ w O p v := by
 cases p <;> simp only [PV.lit] at h <;> first | (cases h; done) | (cases h; first | exact .int _ _ | exact .bool _ | exact .str _)
theorem Bi [BA] {w : World} {O : Nat → Prop} {μ : Mu} {R : Vd.Rows} {p : PV} {u v : Value} (h : p.lit = some v) (hr : D8 w O μ R p u) : u = v := by
 cases p <;> simp only [PV.lit] at h <;> first | (cases h; done) | (cases h; first | exact hr.int_inv | exact hr.bool_inv | exact hr.str_inv)
theorem bE [BA] {w : World} {O : Nat → Prop} {μ : Mu} {R : Vd.Rows} : ∀ {ps : List PV} {us vs : List Value}, lits ps = some vs → EK w O μ R ps us → us = vs
 | [], us, vs, h, hr => by
  simp only [lits, Option.some.injEq] at h
  subst h
  have := hr.len
  exact List.eq_nil_of_length_eq_zero (by simpa using this)
 | p :: r, us, vs, h, hr => by
  simp only [lits] at h
  split at h
  ·rename_i v q hv hq
   cases h
   cases us with
   | nil => have := hr.len; simp at this
   | cons u us =>
    have h1 : u = v := Bi hv (hr.rel 0 p u rfl rfl)
    have h2 : us = q := bE hq ⟨by have := hr.len; simpa using this, fun j p' v' hj hv' => hr.rel (j + 1) p' v' (by simpa using hj) (by simpa using hv')⟩
    rw [h1, h2]
  ·cases h
theorem Ak [BA] {P : Program} {f : FuncId} {ps : List PV} {vs : List Value} {res : PV} {v : Value} (hps : lits ps = some vs) (hres : ∀ (w : World) (O : Nat → Prop), DZ w O res v) (h : ∀ w, Calls P f vs.toArray w fun e w' => e = .returned v ∧ Below w.heap.size w w') : Sat P f AC ps res AC := by
 intro O μ w us hO hin hargs
 have e := bE hps hargs
 subst e
 refine (h w).mono ?_
 rintro e w' ⟨rfl, hb⟩
 refine ⟨v, μ, rfl, ⟨hb.os, hb.tape, hb.output, hb.size, fun b hlt _ => hb.block b hlt⟩, ⟨fun t row ht => by simp [AC] at ht, fun t t' row row' l l' ht => by simp [AC] at ht, fun t row l ht => by simp [AC] at ht⟩,
  fun t row ht => by simp [AC] at ht, fun t row l ht => by simp [AC] at ht, .base _ _ (hres _ _)⟩
theorem aO [BA] {P : Program} {f : FuncId} {ps : List PV} {vs : List Value} {res : PV} {v : Value} (hps : lits ps = some vs) (hres : res.lit = some v) (h : ∀ w, Calls P f vs.toArray w fun e w' => e = .returned v ∧ w' = w) : Sat P f AC ps res AC :=
 Ak hps (fun w O => Bh hres) fun w => (h w).mono fun e w' ⟨h1, h2⟩ => ⟨h1, by rw [h2]; exact .refl _ _⟩
section
variable {P : Program} {T : Nat → Bool}
end
def PV.same : PV → PV → Bool
 | .int k a, .int l b => decide (k = l) && decide (a = b)
 | .bool a, .bool b => a == b
 | .str a, .str b => decide (a = b)
 | _, _ => false
def EM {α : Type} (l : List α) (i : Int) : Option α := if 0 ≤ i then l[i.toNat]? else none
def NF (i : Int) (n : Nat) : Option Nat := if 0 ≤ i ∧ i < (n : Int) then some i.toNat else none
def dW {α : Type} (l : List α) (lo hi : Int) : Option (List α) := if 0 ≤ lo ∧ lo ≤ hi ∧ hi ≤ (l.length : Int) then some ((l.take hi.toNat).drop lo.toNat) else none
def QR {α : Type} (l : List α) (hi : Int) : Option (List α) := if 0 ≤ hi ∧ hi ≤ (l.length : Int) then some (l.take hi.toNat) else none
def U6 {α : Type} (l : List α) (lo : Int) : Option (List α) := if 0 ≤ lo ∧ lo ≤ (l.length : Int) then some (l.drop lo.toNat) else none
def j3 (a b : List UInt8) : Option (List UInt8) := if a.length + b.length ≤ 9223372036854775807 then some (a ++ b) else none
def QP {α : Type} (bytes : Nat) (a b : List α) : Option (List α) := if (a.length + b.length) * bytes ≤ 140737488355328 then some (a ++ b) else none
def BX (n : Int) : Int := IntKind.i64.wrap n
def mx (a b : Int) : Int := if b > a then b else a
def mn (a b : Int) : Int := if b < a then b else a
def iop (op : BinOp) (k : IntKind) (a b : Int) : Int := (kT op k a b).getD 0
def uM (a : UInt8) (n : Int) : UInt8 := byte (a.toNat * 2 ^ min n.toNat 8)
def mJ (a n : Int) : Int := IntKind.i64.wrap (a * 2 ^ min n.toNat 64)
def jT (a n : Int) : Int := a.fdiv (2 ^ min n.toNat 64)
def eb (b : UInt8) : PV := .int .u8 (b.toNat : Int)
def ei (n : Int) : PV := .int .i64 n
def es {α : Type} (sz : Nat) (f : α → PV) (l : List α) : PV := .sl sz (l.map f)
theorem AP {α β : Type} {x : Option α} {f : α → Option β} {r : β} (h : Option.bind x f = some r) : ∃ a, x = some a ∧ f a = some r := Option.bind_eq_some_iff.1 h
theorem CY {α : Type} {c : Bool} {x y : Option α} {r : α} (h : (bif c then x else y) = some r) : (c = true ∧ x = some r) ∨ (c = false ∧ y = some r) := by
 cases c
 ·exact .inr ⟨rfl, h⟩
 ·exact .inl ⟨rfl, h⟩
theorem AO {α : Type} {a r : α} (h : some a = some r) : a = r := Option.some.inj h
section
variable {P : Program} {T : Nat → Bool}
def WX [BA] (P : Program) (T : Nat → Bool) (c : IC) (st : St) (Q : Xt → St → Prop) : Prop := ∃ e st', Ex P T c st e st' ∧ Q e st'
theorem AA [BA] {a b : IC} {st : St} {Q : Xt → St → Prop} (h : WX P T a st (After (fun s => WX P T b s Q) Q)) : WX P T (.seq a b) st Q := by
 obtain ⟨e, s, h1, h2⟩ := h
 cases e with
 | normal => obtain ⟨e2, s2, h3, h4⟩ := h2; exact ⟨e2, s2, .seq h1 h3, h4⟩
 | exit i => exact ⟨_, _, .seqx h1 (by simp), h2⟩
 | ret => exact ⟨_, _, .seqx h1 (by simp), h2⟩
theorem AB [BA] {ios : List Ins} {st : St} {Q : Xt → St → Prop} (h : Wr P T ios st (fun s => Q .normal s)) : WX P T (.reg ios) st Q := by
 obtain ⟨s, h1, h2⟩ := Wr.ex h
 exact ⟨_, _, .reg h1, h2⟩
theorem NG [BA] {m : Nat} {ios : List Ins} {st : St} {Q : Xt → St → Prop} (h : jG P (ios.take m) st (fun fin => Wr P T (ios.drop m) fin (fun s => Q .normal s))) : WX P T (.regd m ios) st Q := by
 obtain ⟨fin, h1, h2⟩ := jG.steps h
 obtain ⟨s, h3, h4⟩ := Wr.ex h2
 exact ⟨_, _, .regd h1 h3, h4⟩
theorem Dr [BA] {c : DD} {a b : IC} {st : St} {Q : Xt → St → Prop} {t : Bool} (hc : c.ev st.s = some (.bool t)) (ht : t = true) (h : WX P T a st Q) : WX P T (.cond c a b) st Q := by
 obtain ⟨e, s, h1, h2⟩ := h
 subst ht
 exact ⟨e, s, .cond true hc h1, h2⟩
theorem xcF [BA] {c : DD} {a b : IC} {st : St} {Q : Xt → St → Prop} {t : Bool} (hc : c.ev st.s = some (.bool t)) (ht : t = false) (h : WX P T b st Q) : WX P T (.cond c a b) st Q := by
 obtain ⟨e, s, h1, h2⟩ := h
 subst ht
 exact ⟨e, s, .cond false hc h1, h2⟩
theorem CJ [BA] {id : Nat} {b : IC} {st : St} {Q : Xt → St → Prop} (h : WX P T b st (fun e s => Q (e.blk id) s)) : WX P T (.block id b) st Q := by
 obtain ⟨e, s, h1, h2⟩ := h
 exact ⟨_, _, .block h1, h2⟩
theorem NI [BA] {id : Nat} {st : St} {Q : Xt → St → Prop} (h : Q (.exit id) st) : WX P T (.exit id) st Q := ⟨_, _, .exit, h⟩
theorem BR [BA] {st : St} {Q : Xt → St → Prop} (h : Q .ret st) : WX P T .ret st Q := ⟨_, _, .ret, h⟩
theorem BH [BA] {st : St} {Q : Xt → St → Prop} (h : Q .normal st) : WX P T .skip st Q := ⟨_, _, .skip, h⟩
theorem NH [BA] {c : IC} {st st1 : St} {Q : Xt → St → Prop} (hn : C9 T st st1) (h : WX P T c st1 Q) : WX P T c st Q := by
 obtain ⟨e, s, h1, h2⟩ := h
 exact ⟨e, s, .norm hn h1, h2⟩
theorem tN [BA] {c : IC} {st : St} {Q Q' : Xt → St → Prop} (h : WX P T c st Q) (k : ∀ e s, Q e s → Q' e s) : WX P T c st Q' := by
 obtain ⟨e, s, h1, h2⟩ := h
 exact ⟨e, s, h1, k e s h2⟩
theorem D9 [BA] {id : Nat} {st st1 : St} {Q : Xt → St → Prop} (hn : C9 T st st1) (h : Q (.exit id) st1) : WX P T (.exit id) st Q := ⟨_, _, .normr .exit hn, h⟩
theorem EX [BA] {st st1 : St} {Q : Xt → St → Prop} (hn : C9 T st st1) (h : Q .ret st1) : WX P T .ret st Q := ⟨_, _, .normr .ret hn, h⟩
theorem RP [BA] {α : Type} (S : α → St) (p : α → Prop) {a b : IC} {st : St} {Q : Xt → St → Prop} (hb : ∀ x, p x → WX P T b (S x) Q) (ha : WX P T a st (After (fun s => ∃ x, C9 T s (S x) ∧ p x) Q)) : WX P T (.seq a b) st Q := by
 refine AA (tN ha ?_)
 intro e s h
 cases e with
 | normal => obtain ⟨x, hn, hp⟩ := h; exact NH hn (hb x hp)
 | exit i => exact h
 | ret => exact h
theorem F5 [BA] {α β : Type} {b : IC} (S : α → St) (Qx : β → Xt → St → Prop) (L : Nat → α → Option β) (B : (α → Option β) → α → Option β) (h0 : ∀ x, L 0 x = none) (hs : ∀ n x, L (n + 1) x = B (L n) x)
  (hb : ∀ (rec : α → Option β) (x : α) (y : β), B rec x = some y → WX P T b (S x) (After (fun s => ∃ x', C9 T s (S x') ∧ rec x' = some y) (Qx y))) :
  ∀ (n : Nat) (x : α) (y : β), L n x = some y → WX P T (.loop b) (S x) (Qx y) := by
 intro n
 induction n with
 | zero => intro x y h; rw [h0] at h; cases h
 | succ n ih =>
  intro x y h
  rw [hs] at h
  obtain ⟨e, s, h1, h2⟩ := hb _ x y h
  cases e with
  | normal =>
   obtain ⟨x', hn, hr⟩ := h2
   obtain ⟨e2, s2, h3, h4⟩ := ih x' y hr
   exact ⟨e2, s2, .loop h1 (.norm hn h3), h4⟩
  | exit i => exact ⟨_, _, .loopx h1 (by simp), h2⟩
  | ret => exact ⟨_, _, .loopx h1 (by simp), h2⟩
theorem Fa [BA] {b : IC} {st st1 : St} {Q Q' : Xt → St → Prop} (hn : C9 T st st1) (h : WX P T (.loop b) st1 Q) (k : ∀ e s, Q e s → Q' e s) : WX P T (.loop b) st Q' := NH hn (tN h k)
theorem EL [BA] (hm : P.follows .mixedOrders = true) {f : FuncId} {fn : Func} {n : Nat} {code : IC} {rv : List YV} (hf : P.funcs[f]? = some fn) (hc : BV P fn = some ⟨n, code, rv⟩) {ps rs : List PV} {res : PV} (hr : aX rs = res) (hlen : Nat.ble ps.length n = true)
  (h : WX P (fun _ => false) code ⟨s0 n ps, AC⟩ fun e st' => (∀ id, e ≠ .exit id) ∧ gets st' rv = some rs ∧ PV.tks (fun _ => false) rs = true) : Sat P f AC ps res AC := by
 obtain ⟨e, s, h1, h2, h3, h4⟩ := h
 subst hr
 exact mK hm hf hc (Nat.le_of_ble_eq_true hlen) h1 h2 h3 h4 (fun t row h => by simp [AC] at h) (fun t row h => by simp [AC] at h)
theorem QK [BA] {d : Option Nat} {op : KY} {g : Option (Nat × Bool)} {r : List Ins} {st : St} {K : St → Prop} {p : PV} {N : Rows} (hg : UF st.s g = some true) (h : PP P op st.s st.r p N) (hn : ∀ t row, N t = some row → st.r t = none)
  (k : jG P r (St.put ⟨st.s, N7 N st.r⟩ d p) K) : jG P (⟨d, op, g⟩ :: r) st K := .inl ⟨hg, p, N, h, hn, k⟩
theorem JF [BA] {d : Option Nat} {op : KY} {g : Option (Nat × Bool)} {r : List Ins} {st : St} {K : St → Prop} {p : PV} (hg : UF st.s g = some true) (h : pop st.s st.r op = some p) (k : jG P r (st.put d p) K) : jG P (⟨d, op, g⟩ :: r) st K := by
 refine QK hg (.pop h) CQ ?_
 rw [vJ]
 exact k
def zX (p q : PV) : Prop := ∀ (w : World) (O : Nat → Prop) (μ : Mu) (R : Rows) (v : Value), D8 w O μ R p v → D8 w O μ R q v
theorem A9 {p : PV} : zX p p := fun _ _ _ _ _ h => h
theorem FH (sz : Nat) : zX .nl (.sl sz []) := by
 intro w O μ R v h
 cases h with | base _ _ h => cases h with | nl => exact .base _ _ (.sl0 sz none 0)
inductive ZR : List PV → List PV → Prop
 | nil : ZR [] []
 | cons {p q : PV} {l m : List PV} (h : zX p q) (k : ZR l m) : ZR (p :: l) (q :: m)
theorem ZR.len {l m : List PV} (h : ZR l m) : l.length = m.length := by
 induction h with
 | nil => rfl
 | cons _ _ ih => simp [ih]
theorem ZR.get {l m : List PV} (h : ZR l m) : ∀ (j : Nat) (q : PV), m[j]? = some q → ∃ p, l[j]? = some p ∧ zX p q := by
 induction h with
 | nil => intro j q hj; simp at hj
 | cons h k ih =>
  intro j q hj
  cases j with
  | zero => simp at hj; subst hj; exact ⟨_, rfl, h⟩
  | succ j => simpa using ih j q (by simpa using hj)
theorem J4 [BA] {l m : List PV} (h : ZR l m) (hm : m.all PV.one = true) : zX (.agg l) (.agg m) := by
 intro w O μ R v hv
 obtain ⟨vs, rfl, hl, _, hr⟩ := hv.agg_inv
 refine .agg m vs (hl.trans h.len) (fun p hp => List.all_eq_true.1 hm p hp) fun j q u hj hu => ?_
 obtain ⟨p, hp, hs⟩ := h.get j q hj
 exact hs _ _ _ _ _ (hr j p u hp hu)
theorem L6 [BA] (k : Nat) {p q : PV} {st : St} (hs : zX p q) (hk : st.s k = some p) : C9 T st ⟨upd st.s k (some q), st.r⟩ := by
 intro w0 O L n μ a w hL h
 refine ⟨μ, h.dfr, h.size, h.fr, h.out, fun j r hj => ?_, h.row, h.inj, h.own, h.keep⟩
 by_cases hjk : j = k
 ·subst hjk
  simp only [upd_same, Option.some.injEq] at hj
  subst hj
  obtain ⟨v, hv, hr⟩ := h.slot j p hk
  exact ⟨v, hv, hs _ _ _ _ _ hr⟩
 ·simp only [upd_ne _ _ hjk] at hj
  exact h.slot j r hj
theorem Sat.subs [BA] {P : Program} {f : FuncId} {Ri Ro : Rows} {ps qs : List PV} {res : PV} (h : Sat P f Ri qs res Ro) (hs : ZR ps qs) : Sat P f Ri ps res Ro := by
 intro O μ w vs hO hin hargs
 refine h O μ w vs hO hin ⟨hargs.len.trans hs.len, fun j q u hj hu => ?_⟩
 obtain ⟨p, hp, hsub⟩ := hs.get j q hj
 exact hsub _ _ _ _ _ (hargs.rel j p u hp hu)
end
section
variable {s : EY} {R : Rows} {α : Type}
theorem kS {l : List α} {i : Int} {x : α} (h : EM l i = some x) : 0 ≤ i ∧ l[i.toNat]? = some x := by
 unfold EM at h
 split at h
 ·exact ⟨by assumption, h⟩
 ·cases h
theorem yG {l r : List α} {lo hi : Int} (h : dW l lo hi = some r) : 0 ≤ lo ∧ lo ≤ hi ∧ hi ≤ (l.length : Int) ∧ (l.take hi.toNat).drop lo.toNat = r := by
 unfold dW at h
 split at h
 ·rename_i h1
  exact ⟨h1.1, h1.2.1, h1.2.2, by simpa using h⟩
 ·cases h
theorem V6 {l r : List α} {hi : Int} (h : QR l hi = some r) : 0 ≤ hi ∧ hi ≤ (l.length : Int) ∧ l.take hi.toNat = r := by
 unfold QR at h
 split at h
 ·rename_i h1
  exact ⟨h1.1, h1.2, by simpa using h⟩
 ·cases h
theorem fU {l r : List α} {lo : Int} (h : U6 l lo = some r) : 0 ≤ lo ∧ lo ≤ (l.length : Int) ∧ l.drop lo.toNat = r := by
 unfold U6 at h
 split at h
 ·rename_i h1
  exact ⟨h1.1, h1.2, by simpa using h⟩
 ·cases h
theorem yL {i : Int} {n k : Nat} (h : NF i n = some k) : 0 ≤ i ∧ k < n ∧ i.toNat = k := by
 unfold NF at h
 split at h
 ·rename_i h1
  have : i.toNat = k := by simpa using h
  exact ⟨h1.1, by omega, this⟩
 ·cases h
theorem yO {a b r : List UInt8} (h : j3 a b = some r) : a.length + b.length ≤ 9223372036854775807 ∧ a ++ b = r := by
 unfold j3 at h
 split at h
 ·exact ⟨by assumption, by simpa using h⟩
 ·cases h
theorem lT {n : Nat} {a b r : List α} (h : QP n a b = some r) : (a.length + b.length) * n ≤ 140737488355328 ∧ a ++ b = r := by
 unfold QP at h
 split at h
 ·exact ⟨by assumption, by simpa using h⟩
 ·cases h
theorem OB [BA] {x y : DD} {l : List UInt8} {k : IntKind} {i : Int} {b : UInt8} (h : EM l i = some b) (hx : x.ev s = some (.str l)) (hy : y.ev s = some (.int k i)) : pop s R (.idxs x y) = some (eb b) := by
 obtain ⟨h0, h1⟩ := kS h
 simp only [pop, hx, hy, OC, qO]
 rw [if_pos h0, h1]
 rfl
theorem kD [BA] {x a b : DD} {l r : List UInt8} {k k' : IntKind} {lo hi : Int} (h : dW l lo hi = some r) (hx : x.ev s = some (.str l)) (ha : a.ev s = some (.int k lo)) (hb : b.ev s = some (.int k' hi)) : pop s R (.slcs x (some a) (some b)) = some (.str r) := by
 obtain ⟨h0, h1, h2, rfl⟩ := yG h
 simp only [pop, bT, hx, ha, hb, Option.map_some, Option.bind_some, eT, bounds]
 rw [if_pos ⟨h0, h1, h2⟩]
 rfl
theorem iH [BA] {x b : DD} {l r : List UInt8} {k : IntKind} {hi : Int} (h : QR l hi = some r) (hx : x.ev s = some (.str l)) (hb : b.ev s = some (.int k hi)) : pop s R (.slcs x none (some b)) = some (.str r) := by
 obtain ⟨h1, h2, rfl⟩ := V6 h
 simp only [pop, bT, hx, hb, Option.map_some, Option.bind_some, eT, bounds]
 rw [if_pos ⟨h1, h2⟩]
 rfl
theorem bB [BA] {x a : DD} {l r : List UInt8} {k : IntKind} {lo : Int} (h : U6 l lo = some r) (hx : x.ev s = some (.str l)) (ha : a.ev s = some (.int k lo)) : pop s R (.slcs x (some a) none) = some (.str r) := by
 obtain ⟨h1, h2, rfl⟩ := fU h
 simp only [pop, bT, hx, ha, Option.map_some, Option.bind_some, eT, bounds]
 rw [if_pos ⟨h1, h2⟩]
 simp
theorem fB [BA] {x y : DD} {a b r : List UInt8} (h : j3 a b = some r) (hx : x.ev s = some (.str a)) (hy : y.ev s = some (.str b)) : pop s R (.bin .add x y) = some (.str r) := by
 obtain ⟨h1, rfl⟩ := yO h
 simp only [pop, hx, hy, OC, YR, NY, Gb]
 rw [if_pos h1]
 simp
theorem CO {x : DD} {sz : Nat} {f : α → PV} {l : List α} (hx : x.ev s = some (.sl sz (l.map f))) : pop s R (.len false x) = some (.int .i64 (l.length : Int)) := by
 simp only [pop, hx, Option.bind_some, lenv, cond_false, pO, List.length_map]
theorem EU [BA] {x y : DD} {sz : Nat} {f : α → PV} {l : List α} {k : IntKind} {i : Int} {e : α} {cs : List PV} (h : EM l i = some e) (hx : x.ev s = some (.sl sz (l.map f))) (hy : y.ev s = some (.int k i)) (hc : (f e).cells = cs) : pop s R (.ixp sz x y) = some (.ep cs) := by
 obtain ⟨h0, h1⟩ := kS h
 simp only [pop, hx, hy, OC, bH]
 rw [if_pos ⟨trivial, h0⟩, List.getElem?_map, h1]
 simp [hc]
theorem Ay [BA] {x b : DD} {sz : Nat} {f : α → PV} {l r : List α} {k' : IntKind} {hi : Int} (h : QR l hi = some r) (hx : x.ev s = some (.sl sz (l.map f))) (hb : b.ev s = some (.int k' hi)) : pop s R (.slcl sz x none (some b)) = some (.sl sz (r.map f)) := by
 obtain ⟨h1, h2, rfl⟩ := V6 h
 simp only [pop, bT, hx, hb, Option.map_some, Option.bind_some, TZ, bounds]
 rw [if_pos trivial, if_pos ⟨h1, by simpa using h2⟩]
 simp [List.map_take, List.map_drop]
theorem Az [BA] {x a : DD} {sz : Nat} {f : α → PV} {l r : List α} {k : IntKind} {lo : Int} (h : U6 l lo = some r) (hx : x.ev s = some (.sl sz (l.map f))) (ha : a.ev s = some (.int k lo)) : pop s R (.slcl sz x (some a) none) = some (.sl sz (r.map f)) := by
 obtain ⟨h1, h2, rfl⟩ := fU h
 simp only [pop, bT, hx, ha, Option.map_some, Option.bind_some, TZ, bounds]
 rw [if_pos trivial, if_pos ⟨h1, by simpa using h2⟩]
 simp only [Option.map_some, List.length_map, List.map_drop]
 rw [List.take_of_length_le (by simp)]
theorem Lf (l : List UInt8) : (l.map eb).all PV.isU8 = true := by simp [eb, PV.isU8]
theorem vL [BA] (l : List UInt8) : (l.map eb).map PV.byte = l := lL l
theorem BU {f : α → PV} {l : List α} : ((l.map f).drop 0).take l.length = l.map f := by
 rw [List.drop_zero]
 exact List.take_of_length_le (by simp)
theorem uF [BA] {f : α → PV} {l r : List α} {hi : Int} (h : QR l hi = some r) : ((l.map f).drop 0).take hi.toNat = r.map f := by
 obtain ⟨_, _, rfl⟩ := V6 h
 rw [List.drop_zero, List.map_take]
theorem KF [BA] {x y : DD} {sz n t : Nat} {k : IntKind} {i : Int} {j : Nat} {row : Row} (h : NF i n = some j) (hx : x.ev s = some (.slr t 0 n)) (hy : y.ev s = some (.int k i)) (hr : R t = some row) (hs : row.sz = sz) : pop s R (.ixp sz x y) = some (.ptr t j 0) := by
 obtain ⟨h0, h1, rfl⟩ := yL h
 simp only [pop, hx, hy, OC, bH, hr]
 rw [if_pos ⟨hs, h0, by omega⟩, Nat.zero_add]
theorem Q4 {x : DD} {sz sz' t o j : Nat} {ag : Bool} {f : α → PV} {l : List α} {e : α} {pr : Bool} {v : PV} (h : l[j]? = some e) (hx : x.ev s = some (.ptr t j o)) (hr : R t = some ⟨sz', pr, l.map f⟩)
  (hv : (if ag = true ∧ (f e).cells.length < o + sz then none else U4 o sz ag (f e).cells) = some v) : pop s R (.load sz ag x) = some v := by
 simp only [pop, hx, Option.bind_some, U5, hr]
 rw [List.getElem?_map, h]
 exact hv
theorem Aw [BA] {x b : DD} {sz n t : Nat} {l r : List α} {k' : IntKind} {hi : Int} {row : Row} (h : QR l hi = some r) (hx : x.ev s = some (.slr t 0 n)) (hn : n = l.length) (hb : b.ev s = some (.int k' hi)) (hr : R t = some row) (hs : row.sz = sz) : pop s R (.slcl sz x none (some b)) = some (.slr t 0 hi.toNat) := by
 obtain ⟨h1, h2, rfl⟩ := V6 h
 simp only [pop, bT, hx, hb, Option.map_some, Option.bind_some, TZ, bounds, hr]
 rw [if_pos hs, if_pos ⟨h1, by omega⟩]
 simp
theorem UK [BA] {x : DD} {t lo n : Nat} {l r : List UInt8} (hx : x.ev s = some (.slr t lo n)) (hr : R t = some ⟨1, true, l.map eb⟩) (hl : ((l.map eb).drop lo).take n = r.map eb) : pop s R (.cvb x) = some (.str r) := by
 simp only [pop, hx, Option.bind_some, dV, hr]
 rw [hl, if_pos ⟨trivial, trivial, Lf r⟩, vL]
theorem LY {sz t lo n : Nat} {cs : List PV} {ys : List PV} (hr : R t = some ⟨sz, true, cs⟩) (h : (cs.drop lo).take n = ys) : UR R sz (.slr t lo n) = some ys := by
 simp only [UR, hr]
 rw [if_pos ⟨trivial, trivial⟩, h]
theorem Au [BA] {x y : DD} {a b : UInt8} (hx : x.ev s = some (eb a)) (hy : y.ev s = some (eb b)) : pop s R (.bin .add x y) = some (eb (a + b)) := by
 simp only [pop, hx, hy, OC, eb, YR, NY, wW]
 simp only [Bool.false_eq_true, if_false, if_true, Option.some.injEq, PV.int.injEq, true_and]
 rw [X6]
 congr 1
 apply UInt8.toNat_inj.2
 apply UInt8.toNat_inj.1
 have h := byte_toNat ((a.toNat : Int) + b.toNat)
 rw [UInt8.toNat_add]
 omega
theorem V7 [BA] {x y : DD} {a b : UInt8} (hx : x.ev s = some (eb a)) (hy : y.ev s = some (eb b)) : pop s R (.bin .and x y) = some (eb (a &&& b)) := by
 simp only [pop, hx, hy, OC, eb, o6]
theorem Gc [BA] {x y : DD} {a b : UInt8} (hx : x.ev s = some (eb a)) (hy : y.ev s = some (eb b)) : pop s R (.bin .or x y) = some (eb (a ||| b)) := by
 simp only [pop, hx, hy, OC, eb, tC]
theorem Ar [BA] {x y : DD} {a : UInt8} {k : IntKind} {n : Int} (h : 0 ≤ n) (hx : x.ev s = some (eb a)) (hy : y.ev s = some (.int k n)) : pop s R (.bin .shl x y) = some (eb (uM a n)) := by
 simp only [pop, hx, hy, OC, eb, YR, NY, bI]
 simp only [if_true]
 rw [if_neg (by omega)]
 simp only [Option.some.injEq, PV.int.injEq, true_and]
 rw [X6]
 rfl
theorem WG [BA] {x : DD} {k : IntKind} {n : Int} (hx : x.ev s = some (.int k n)) : pop s R (.cvi .u8 x) = some (eb (byte n)) := by
 simp only [pop, hx, Option.bind_some, Cx, eb]
 rw [X6]
theorem mR [BA] {x : DD} {a : UInt8} (hx : x.ev s = some (eb a)) : pop s R (.cvi .i64 x) = some (.int .i64 (a.toNat : Int)) := by
 have h1 := a.toNat_lt
 simp only [pop, hx, Option.bind_some, Cx, eb]
 rw [kU (by omega) (by omega)]
theorem Dw {x y : DD} {k : IntKind} {a n : Int} (h : 0 ≤ n) (hx : x.ev s = some (.int .i64 a)) (hy : y.ev s = some (.int k n)) : pop s R (.bin .shl x y) = some (.int .i64 (mJ a n)) := by
 simp only [pop, hx, hy, OC, YR, NY, bI]
 simp only [if_true]
 rw [if_neg (by omega)]
 rfl
theorem vE {x y : DD} {k : IntKind} {a n : Int} (h : 0 ≤ n) (hx : x.ev s = some (.int .i64 a)) (hy : y.ev s = some (.int k n)) : pop s R (.bin .shr x y) = some (.int .i64 (jT a n)) := by
 simp only [pop, hx, hy, OC, YR, NY, bI]
 simp only [if_true]
 rw [if_neg (by omega)]
 rfl
theorem BG {c x y : DD} {t : Bool} {p : PV} (ht : t = true) (hc : c.ev s = some (.bool t)) (hx : x.ev s = some p) : pop s R (.pick c x y) = some p := by
 simp only [pop, hc, hx, ht, cond_true]
theorem BD {c x y : DD} {t : Bool} {p : PV} (ht : t = false) (hc : c.ev s = some (.bool t)) (hx : y.ev s = some p) : pop s R (.pick c x y) = some p := by
 simp only [pop, hc, hx, ht, cond_false]
end
section
variable {P : Program} {T : Nat → Bool} {α : Type}
theorem VU [BA] (t' : Nat) {t e sz bytes d n : Nat} {x y : DD} {g : Option (Nat × Bool)} {r : List Ins} {st : St} {K : St → Prop} {q : PV} {f : α → PV} {a b z : List α} (h : QP bytes a b = some z) (hg : UF st.s g = some true) (hx : x.ev st.s = some (.slr t 0 n)) (hn : n = a.length) (hr : st.r t = some ⟨sz, true, a.map f⟩)
  (hy : y.ev st.s = some q) (he : UR st.r sz q = some (b.map f)) (hT : T t = false) (hb : Nat.ble 1 bytes = true) (ht : st.r t' = none) (hty : UZ t' e (.slr t 0 n) = true)
  (k : Wr P T r ⟨upd (fG t st.s) d (some (.slr t' 0 z.length)), upd (MK t st.r) t' (some ⟨sz, true, z.map f⟩)⟩ K) : Wr P T (⟨some d, .app e sz bytes x y, g⟩ :: r) st K := by
 obtain ⟨h1, rfl⟩ := lT h
 subst hn
 refine ⟨st, _, C9.refl, .run hg (oapp (tok := some t) (xs := a.map f) (ys := b.map f) t' hx hy ?_ he (fun u hu => by cases hu; exact hT) hb (by simpa using h1) ht hty), ?_⟩
 ·simp only [VT, hr]
  rw [if_pos ⟨trivial, trivial, by simp⟩]
  rfl
 ·simpa [XX, St.put, List.map_append] using k
theorem jK [BA] {sz rsz t j o : Nat} {x y : DD} {dst : Option Nat} {g : Option (Nat × Bool)} {r : List Ins} {st : St} {K : St → Prop} {f : α → PV} {l : List α} {e e' : α} {pr : Bool} {q : PV} (h : l[j]? = some e) (hg : UF st.s g = some true) (hx : x.ev st.s = some (.ptr t j o)) (hr : st.r t = some ⟨rsz, pr, l.map f⟩)
  (hy : y.ev st.s = some q) (hq : Nat.beq q.cells.length sz = true) (h0 : Nat.ble 1 sz = true) (h1 : q.cells.all PV.one = true) (hfit : Nat.ble (o + sz) rsz = true) (hpr : pr = true → q.free = true) (he : uH (f e) o q.cells = f e')
  (k : Wr P T r (St.put ⟨st.s, upd st.r t (some ⟨rsz, pr, (l.set j e').map f⟩)⟩ dst .undef) K) : Wr P T (⟨dst, .store sz x y, g⟩ :: r) st K := by
 refine ⟨st, _, C9.refl, .run hg (osto (row := ⟨rsz, pr, l.map f⟩) (y := f e) hx hy hr (by show (l.map f)[j]? = _; rw [List.getElem?_map, h]; rfl) hq h0 h1 hfit hpr), ?_⟩
 have : ((l.map f).set j (uH (f e) o q.cells)) = (l.set j e').map f := by rw [he, List.map_set]
 simpa [this] using k
theorem ED [BA] {sz rsz t o : Nat} {x y : DD} {dst : Option Nat} {g : Option (Nat × Bool)} {r : List Ins} {st : St} {K : St → Prop} {e e' : PV} {pr : Bool} {q : PV} (hg : UF st.s g = some true) (hx : x.ev st.s = some (.ptr t 0 o)) (hr : st.r t = some ⟨rsz, pr, [e]⟩)
  (hy : y.ev st.s = some q) (hq : Nat.beq q.cells.length sz = true) (h0 : Nat.ble 1 sz = true) (h1 : q.cells.all PV.one = true) (hfit : Nat.ble (o + sz) rsz = true) (hpr : pr = true → q.free = true) (he : uH e o q.cells = e')
  (k : Wr P T r (St.put ⟨st.s, upd st.r t (some ⟨rsz, pr, [e']⟩)⟩ dst .undef) K) : Wr P T (⟨dst, .store sz x y, g⟩ :: r) st K := by
 refine ⟨st, _, C9.refl, .run hg (osto (row := ⟨rsz, pr, [e]⟩) (y := e) (i := 0) hx hy hr rfl hq h0 h1 hfit hpr), ?_⟩
 subst he
 exact k
theorem AZ [BA] {d : Option Nat} {op : KY} {g : Option (Nat × Bool)} {r : List Ins} {st : St} {K : St → Prop} {p : PV} (hg : UF st.s g = some true) (h : pop st.s st.r op = some p) (k : Wr P T r (st.put d p) K) : Wr P T (⟨d, op, g⟩ :: r) st K :=
 ⟨st, _, C9.refl, .run hg (opop h), k⟩
theorem CW [BA] {d : Option Nat} {op : KY} {g : Option (Nat × Bool)} {r : List Ins} {st st' : St} {K : St → Prop} (hg : UF st.s g = some true) (h : XZ P T op d st st') (k : Wr P T r st' K) : Wr P T (⟨d, op, g⟩ :: r) st K :=
 ⟨st, _, C9.refl, .run hg h, k⟩
theorem D7 [BA] {d : Option Nat} {op : KY} {g : Option (Nat × Bool)} {r : List Ins} {st : St} {K : St → Prop} (hg : UF st.s g = some false) (k : Wr P T r (st.put d .undef) K) : Wr P T (⟨d, op, g⟩ :: r) st K :=
 ⟨st, _, C9.refl, .skip hg, k⟩
inductive ZU (R : Rows) : List PV → List PV → Prop
 | nil : ZU R [] []
 | cons {p q : PV} {l m : List PV} (h : zX (p.bor AC R) q) (k : ZU R l m) : ZU R (p :: l) (q :: m)
theorem ZU.subs {R : Rows} {l m : List PV} (h : ZU R l m) : ZR (l.map (PV.bor AC R)) m := by
 induction h with
 | nil => exact .nil
 | cons h _ ih => exact .cons h ih
theorem GQ [BA] {p q : PV} (h : p = q) : zX p q := h ▸ A9
theorem aB [BA] {R : Rows} {t lo n sz : Nat} {cs ys : List PV} (hr : R t = some ⟨sz, true, cs⟩) (h : (cs.drop lo).take n = ys) : zX (PV.bor AC R (.slr t lo n)) (.sl sz ys) := by
 have : PV.bor AC R (.slr t lo n) = .sl sz ys := by
  simp only [PV.bor, PV.map, bs, AC, hr, h, cond_true]
 exact GQ this
theorem CX [BA] {d : Option Nat} {f : FuncId} {xs : List DD} {st : St} {ps qs : List PV} {res : PV} (hs : Sat P f AC qs res AC) (h : evs st.s xs = some ps) (hq : ZU st.r ps qs) (hf : (ps.all PV.free || res.nosl) = true) (ht : res.free = true)
  (htk : PV.tks (fun t => (st.r t).isSome) ps = true) : XZ P T (.call f xs) d st (st.put d res) :=
 ocall h rfl (hs.subs hq.subs) hf ht htk
theorem LX [BA] {f : FuncId} {xs : List DD} {st : St} {ps qs : List PV} {res : PV} (hs : Sat P f AC qs res AC) (h : evs st.s xs = some ps) (hq : ZU st.r ps qs) (hf : (ps.all PV.free || res.nosl) = true) (ht : res.free = true)
  (htk : PV.tks (fun t => (st.r t).isSome) ps = true) : PP P (.call f xs) st.s st.r res AC := by
 refine .call ps res AC h ?_ (hs.subs hq.subs) (PV.tk_free ht _) (fun t row h => by simp [AC] at h) (fun p hp => PV.tks_mem htk p hp)
 rw [Bool.or_eq_true] at hf
 rcases hf with hf | hf
 ·exact .inl fun p hp => PV.tk_free (List.all_eq_true.1 hf p hp) _
 ·exact .inr ⟨hf, fun t row h => by simp [AC] at h⟩
end
section
variable {P : Program} {T : Nat → Bool}
theorem GZ [BA] {a b : IC} {st : St} {Q : Xt → St → Prop} (s1 : St) (ha : WX P T a st (After (fun s => C9 T s s1) Q)) (hb : WX P T b s1 Q) : WX P T (.seq a b) st Q := by
 refine AA (tN ha ?_)
 intro e s h
 cases e with
 | normal => exact NH h hb
 | exit i => exact h
 | ret => exact h
theorem pcalv [BA] {g : DD} {f : FuncId} {xs : List DD} {st : St} {caps ps qs : List PV} {res : PV} (hs : Sat P f AC qs res AC) (hg : g.ev st.s = some (.clo f caps)) (hok : TP P f = true) (h : evs st.s xs = some ps) (hq : ZU st.r (ps ++ caps) qs) (hf : ((ps ++ caps).all PV.free || res.nosl) = true) (ht : res.free = true)
  (htk : PV.tks (fun t => (st.r t).isSome) (ps ++ caps) = true) : PP P (.calv g xs) st.s st.r res AC := by
 refine .calv f caps ps res AC hg hok h ?_ (hs.subs hq.subs) (PV.tk_free ht _) (fun t row h => by simp [AC] at h) (fun p hp => PV.tks_mem htk p hp)
 rw [Bool.or_eq_true] at hf
 rcases hf with hf | hf
 ·exact .inl fun p hp => PV.tk_free (List.all_eq_true.1 hf p hp) _
 ·exact .inr ⟨hf, fun t row h => by simp [AC] at h⟩
theorem VP [BA] {d : Option Nat} {g : DD} {f : FuncId} {xs : List DD} {st : St} {caps ps qs : List PV} {res : PV} (hs : Sat P f AC qs res AC) (hg : g.ev st.s = some (.clo f caps)) (hok : TP P f = true) (h : evs st.s xs = some ps) (hq : ZU st.r (ps ++ caps) qs) (hf : ((ps ++ caps).all PV.free || res.nosl) = true) (ht : res.free = true)
  (htk : PV.tks (fun t => (st.r t).isSome) (ps ++ caps) = true) : XZ P T (.calv g xs) d st (st.put d res) := by
 have := XZ.pur (P := P) (T := T) (dst := d) res AC (pcalv hs hg hok h hq hf ht htk) CQ
 rwa [vJ] at this
def bfs (t : Nat) : Nat → Nat → Nat → PV := fun u lo n => bif Nat.beq u t then .any else .slr u lo n
def bfp (t : Nat) (cs : List PV) : Nat → Nat → Nat → PV := fun u i o => bif Nat.beq u t then .ep (cs.drop o) else .ptr u i o
def PV.bfz (t : Nat) (cs : List PV) (p : PV) : PV := p.map (bfs t) (bfp t cs)
def Row.bfz (t : Nat) (cs : List PV) (r : Row) : Row := bif r.pr then r else ⟨r.sz, r.pr, r.cs.map (PV.bfz t cs)⟩
def bfzS (t : Nat) (cs : List PV) (s : EY) : EY := fun k => (s k).map (PV.bfz t cs)
def XU (t : Nat) (cs : List PV) (r : Rows) : Rows := fun u => bif Nat.beq u t then none else (r u).map (Row.bfz t cs)
theorem jC (t u lo n : Nat) : (bfs t u lo n).one = true := by unfold bfs; cases Nat.beq u t <;> rfl
theorem jD (t : Nat) (cs : List PV) (u i o : Nat) : (bfp t cs u i o).one = true := by unfold bfp; cases Nat.beq u t <;> rfl
theorem PV.bfz_one [BA] {t : Nat} {cs : List PV} {p : PV} (h : p.one = true) : (p.bfz t cs).one = true := PV.map_one (jC t) (jD t cs) p h
theorem PV.bfz_cells [BA] (t : Nat) (cs : List PV) (p : PV) : (p.bfz t cs).cells = p.cells.map (PV.bfz t cs) := PV.map_cells (jC t) (jD t cs) p
theorem Row.bfz_sz (t : Nat) (cs : List PV) (r : Row) : (r.bfz t cs).sz = r.sz := by unfold Row.bfz; cases r.pr <;> rfl
theorem Row.bfz_pr (t : Nat) (cs : List PV) (r : Row) : (r.bfz t cs).pr = r.pr := by unfold Row.bfz; cases h : r.pr <;> simp [h]
theorem Row.bfz_len (t : Nat) (cs : List PV) (r : Row) : (r.bfz t cs).cs.length = r.cs.length := by unfold Row.bfz; cases r.pr <;> simp
theorem SQ [BA] {t u : Nat} {cs : List PV} {R : Rows} {r : Row} (h : XU t cs R u = some r) : u ≠ t ∧ ∃ r', R u = some r' ∧ r = r'.bfz t cs := by
 unfold XU at h
 by_cases hu : u = t
 ·rw [hu, FM] at h; cases h
 ·rw [E8 hu, cond_false] at h
  obtain ⟨r', hr, rfl⟩ := Option.map_eq_some_iff.1 h
  exact ⟨hu, r', hr, rfl⟩
theorem qZ [BA] {t u : Nat} {cs : List PV} {R : Rows} {r : Row} (hu : u ≠ t) (h : R u = some r) : XU t cs R u = some (r.bfz t cs) := by
 unfold XU
 rw [E8 hu, cond_false, h]
 rfl
theorem BJ.bfreeze [BA] {w0 w : World} {O : Nat → Prop} {L : MN} {n : Nat} {μ : Mu} {st : St} {a : Act} (h : BJ w0 O L n μ st a w) (t : Nat) {sz : Nat} {pr : Bool} {x : PV} (ht : st.r t = some ⟨sz, pr, [x]⟩) (hfree : ∀ q ∈ x.cells, q.free = true) (hT : L.T t = false) : BJ w0 O L n μ ⟨bfzS t x.cells st.s, XU t x.cells st.r⟩ a w := by
 have hO : ∀ b, Av O μ (XU t x.cells st.r) b → Av O μ st.r b := by
  rintro b (h1 | ⟨u, r, l, h1, h2, h3⟩)
  ·exact .inl h1
  ·obtain ⟨hu, r', hr, rfl⟩ := SQ h1
   exact .inr ⟨u, r', l, hr, h2, h3⟩
 have hown : ∀ l, μ t = some l → ¬ Av O μ (XU t x.cells st.r) l.b := by
  rintro l hl (h1 | ⟨u, r, l', h1, h2, h3⟩)
  ·exact (h.own t _ l ht hl).1 h1
  ·obtain ⟨hu, r', hr, rfl⟩ := SQ h1
   exact hu (h.inj u t r' _ l' l hr ht h2 hl h3)
 have hR : ∀ u r, u ≠ t → st.r u = some r → ∃ r', XU t x.cells st.r u = some r' ∧ r'.sz = r.sz ∧ r'.cs.length = r.cs.length :=
  fun u r hu hr => ⟨_, qZ hu hr, Row.bfz_sz _ _ _, Row.bfz_len _ _ _⟩
 have hep : ∀ i o v, D8 w (Av O μ st.r) μ st.r (.ptr t i o) v → DZ w (Av O μ (XU t x.cells st.r)) (.ep (x.cells.drop o)) v := by
  intro i o v hv
  cases hv with
  | base _ _ h => cases h
  | ptr _ _ _ r l hr hm hi ho =>
   rw [ht] at hr
   cases hr
   have hi0 : i = 0 := by simp at hi; omega
   subst hi0
   obtain ⟨arr, ety, fz, h1, h2, h3, h4, h5⟩ := (h.row t _ ht).lie l hm
   have hel := (h.row t _ ht).el x (by simp)
   have hg : ∀ (j : Nat) (p : PV), (x.cells.drop o)[j]? = some p → ∃ u, arr[l.base + (o + j)]? = some u ∧ DZ w (Av O μ (XU t x.cells st.r)) p u := by
    intro j p hj
    rw [List.getElem?_drop] at hj
    obtain ⟨u, hu, hc⟩ := h5 0 x (o + j) p (by simp) hj
    refine ⟨u, by simpa using hu, ?_⟩
    exact (hc.rel.free (hfree p (List.mem_of_getElem? hj))).frame (fun _ _ _ => rfl) (fun b _ hb => hO b hb)
   let V : Nat → Value := fun j => (arr[l.base + (o + j)]?).getD undef
   have := DZ.ep (w := w) (O := Av O μ (XU t x.cells st.r)) (x.cells.drop o) l.b (l.base + (0 * sz + o)) V (hown l hm) (by
     intro e
     have : (x.cells.drop o).length = 0 := by rw [e]; rfl
     rw [List.length_drop, hel.1] at this
     exact Nat.not_lt.2 (Nat.le_of_sub_eq_zero this) ho) (fun p hp => hel.2 p (List.mem_of_mem_drop hp)) (fun j p hj => by
     obtain ⟨u, hu, _⟩ := hg j p hj
     have : V j = u := by show (arr[l.base + (o + j)]?).getD undef = u; rw [hu]; rfl
     rw [this]
     unfold World.cell?
     rw [h1]
     simp only
     rw [show l.base + (0 * sz + o) + j = l.base + (o + j) by omega]
     exact hu) (fun j p hj => by
     obtain ⟨u, hu, hr⟩ := hg j p hj
     have : V j = u := by show (arr[l.base + (o + j)]?).getD undef = u; rw [hu]; rfl
     rw [this]
     exact hr)
   simpa using this
 have key : ∀ {p : PV} {v : Value}, D8 w (Av O μ st.r) μ st.r p v → D8 w (Av O μ (XU t x.cells st.r)) μ (XU t x.cells st.r) (p.bfz t x.cells) v := by
  intro p v hp
  refine D8.map (fs := bfs t) (fp := bfp t x.cells) (fun _ _ _ => rfl) (fun b _ hb => hO b hb) (jC t) (jD t x.cells) (fun u lo m v hv => ?_) (fun u i o v hv => ?_) hp
  ·unfold bfs
   by_cases hu : u = t
   ·rw [hu, FM]
    exact .base _ _ (.any v (hv.oneCell rfl))
   ·rw [E8 hu]
    cases hv with
    | base _ _ h => cases h
    | slr _ _ _ c r l hr hm hn hc hroom =>
     obtain ⟨r', h2, h3, h4⟩ := hR u r hu hr
     rw [← h3]
     exact .slr u lo m c r' l h2 hm (by omega) hc (by rw [h3]; exact hroom)
    | slr0 _ _ r A hr hn =>
     obtain ⟨r', h2, h3, h4⟩ := hR u r hu hr
     exact .slr0 u lo r' A h2 (by omega)
  ·unfold bfp
   by_cases hu : u = t
   ·subst hu
    rw [FM]
    exact .base _ _ (hep i o v hv)
   ·rw [E8 hu]
    cases hv with
    | base _ _ h => cases h
    | ptr _ _ _ r l hr hm hi ho =>
     obtain ⟨r', h2, h3, h4⟩ := hR u r hu hr
     rw [← h3]
     exact .ptr u i o r' l h2 hm (by omega) (by omega)
 refine ⟨h.dfr, h.size, h.fr, h.out, fun k p hk => ?_, fun u r hr => ?_, ?_, ?_, fun u hu => ?_⟩
 ·obtain ⟨q, hq, rfl⟩ := Option.map_eq_some_iff.1 hk
  obtain ⟨v, hv, hrel⟩ := h.slot k q hq
  exact ⟨v, hv, key hrel⟩
 ·obtain ⟨hu, r', hr', rfl⟩ := SQ hr
  have hrr := h.row u r' hr'
  refine ⟨by rw [Row.bfz_sz]; exact hrr.sz, fun y hy => ?_, fun hn => ?_, fun l hl => ?_, fun k hk l hl => by
   obtain ⟨e1, arr, fz, e2, e3⟩ := hrr.ty k hk l hl
   exact ⟨e1, arr, fz, e2, by rw [Row.bfz_pr, Row.bfz_sz]; exact e3⟩⟩
  ·rw [Row.bfz_sz]
   unfold Row.bfz at hy
   cases hp : r'.pr with
   | true => rw [hp, cond_true] at hy; exact hrr.el y hy
   | false =>
    rw [hp, cond_false] at hy
    obtain ⟨z, hz, rfl⟩ := List.mem_map.1 hy
    obtain ⟨h1, h2⟩ := hrr.el z hz
    rw [PV.bfz_cells]
    refine ⟨by simpa using h1, fun p hp' => ?_⟩
    obtain ⟨q, hq, rfl⟩ := List.mem_map.1 hp'
    exact PV.bfz_one (h2 q hq)
  ·have := hrr.non hn
   have hl := Row.bfz_len t x.cells r'
   rw [this] at hl
   exact List.eq_nil_of_length_eq_zero (by simpa using hl)
  ·obtain ⟨arr, ety, fz, h1, h2, h3, h4, h5⟩ := hrr.lie l hl
   refine ⟨arr, ety, fz, h1, h2, by rw [Row.bfz_len, Row.bfz_sz]; exact h3, h4, fun i y j p hi hj => ?_⟩
   rw [Row.bfz_sz, Row.bfz_pr]
   unfold Row.bfz at hi
   cases hp : r'.pr with
   | true =>
    rw [hp, cond_true] at hi
    obtain ⟨v, hv, hc⟩ := h5 i y j p hi hj
    refine ⟨v, hv, ?_⟩
    rw [hp] at hc
    unfold D6 at hc ⊢
    rw [if_pos rfl] at hc ⊢
    exact hc.frame (fun _ _ _ => rfl) (fun b _ hb => hO b hb)
   | false =>
    rw [hp, cond_false] at hi
    rw [List.getElem?_map] at hi
    obtain ⟨z, hz, rfl⟩ := Option.map_eq_some_iff.1 hi
    rw [PV.bfz_cells, List.getElem?_map] at hj
    obtain ⟨q, hq, rfl⟩ := Option.map_eq_some_iff.1 hj
    obtain ⟨v, hv, hc⟩ := h5 i z j q hz hq
    refine ⟨v, hv, ?_⟩
    rw [hp] at hc
    unfold D6 at hc ⊢
    rw [if_neg (by simp)] at hc ⊢
    exact key hc
 ·intro u u' r r' l l' h1 h2 h3 h4 h5
  obtain ⟨_, s, hs, _⟩ := SQ h1
  obtain ⟨_, s', hs', _⟩ := SQ h2
  exact h.inj u u' s s' l l' hs hs' h3 h4 h5
 ·intro u r l h1 h2
  obtain ⟨_, s, hs, _⟩ := SQ h1
  exact h.own u s l hs h2
 ·obtain ⟨h1, r, h2⟩ := h.keep u hu
  have hne : u ≠ t := fun e => by rw [e, hT] at hu; cases hu
  exact ⟨h1, _, qZ hne h2⟩
theorem R5 [BA] {st : St} (t : Nat) {sz : Nat} {pr : Bool} {x : PV} (ht : st.r t = some ⟨sz, pr, [x]⟩) (hfree : x.cells.all PV.free = true) (hT : T t = false) : C9 T st ⟨bfzS t x.cells st.s, XU t x.cells st.r⟩ := by
 intro w0 O L n μ a w hL h
 exact ⟨μ, h.bfreeze t ht (fun q hq => List.all_eq_true.1 hfree q hq) (hL ▸ hT)⟩
end
section
variable {P : Program} {T : Nat → Bool}
def UO (r m : Rows) : List (Nat × Row) → Bool
 | [] => true
 | (t, _) :: l => ((m t).isSome || !(r t).isSome) && UO r m l
theorem QV [BA] {r m : Rows} : ∀ {l : List (Nat × Row)}, UO r m l = true → ∀ t row, AX l t = some row → m t = none → r t = none
 | [], _, t, row, h, _ => by cases h
 | (k, v) :: l, h, t, row, hl, hm => by
  simp only [UO, Bool.and_eq_true, Bool.or_eq_true] at h
  unfold AX at hl
  cases hk : Nat.beq t k with
  | true =>
   have e := Nat.eq_of_beq_eq_true hk
   subst e
   rcases h.1 with h1 | h1
   ·rw [hm] at h1; cases h1
   ·cases hr : r t with
    | none => rfl
    | some x => rw [hr] at h1; cases h1
  | false =>
   rw [hk] at hl
   exact QV h.2 t row hl hm
theorem yQ [BA] {st : St} {m mo : List (Nat × Row)} (hs : JK st.r m) (htk : IK (fun t => (AX m t).isSome) (m.map (·.2)) = true) (hf : UO st.r (AX m) mo = true) : NV st (AX m) (AX mo) :=
 ⟨fun t row ht => ⟨hs.get t row ht, JY htk row (NW ht)⟩, fun t row ht hn => QV hf t row ht hn⟩
theorem Kk {m : List (Nat × Row)} {mo : Rows} {ps : List PV} {res : PV} (h : PV.tks (fun t => (AX m t).isSome) ps = true) : dF (AX m) ps res mo := .inl fun p hp => PV.tks_mem h p hp
theorem olend [BA] (m mo : List (Nat × Row)) {d : Option Nat} {f : FuncId} {xs : List DD} {st : St} {ps qs : List PV} {res : PV} (hs : Sat P f (AX m) qs res (AX mo)) (h : evs st.s xs = some ps) (hq : ps.map (PV.bor (AX m) st.r) = qs) (hr : JK st.r m)
  (htk : IK (fun t => (AX m t).isSome) (m.map (·.2)) = true) (hf : UO st.r (AX m) mo = true) (hfr : PV.tks (fun t => (AX m t).isSome) ps = true) : XZ P T (.call f xs) d st (St.put ⟨st.s, N7 (AX mo) st.r⟩ d res) :=
 .lend ps _ _ res h (yQ hr htk hf) (Kk hfr) (hq ▸ hs)
theorem waps [BA] (t' : Nat) {t e d n : Nat} {x y : DD} {g : Option (Nat × Bool)} {r : List Ins} {st : St} {K : St → Prop} {a b z : List UInt8} (h : QP 1 a b = some z) (hg : UF st.s g = some true) (hx : x.ev st.s = some (.slr t 0 n)) (hn : n = a.length) (hr : st.r t = some ⟨1, true, a.map eb⟩)
  (hy : y.ev st.s = some (.str b)) (hT : T t = false) (ht : st.r t' = none) (hty : UZ t' e (.slr t 0 n) = true)
  (k : Wr P T r ⟨upd (fG t st.s) d (some (.slr t' 0 z.length)), upd (MK t st.r) t' (some ⟨1, true, z.map eb⟩)⟩ K) : Wr P T (⟨some d, .aps e x y, g⟩ :: r) st K := by
 obtain ⟨h1, rfl⟩ := lT h
 subst hn
 refine ⟨st, _, C9.refl, .run hg (oaps (tok := some t) (xs := a.map eb) t' hx hy ?_ (fun u hu => by cases hu; exact hT) (by simpa using h1) ht hty), ?_⟩
 ·simp only [VT, hr]
  rw [if_pos ⟨trivial, trivial, by simp⟩]
  rfl
 ·have e1 : a.map eb ++ JN b = (a ++ b).map eb := by rw [List.map_append]; rfl
  simpa [XX, St.put, e1, -List.map_append] using k
theorem Cr [BA] {b c : IC} {st st' : St} {e : Xt} (h : Ex P T c st e st') : c = .seq b (.loop b) → Ex P T (.loop b) st e st' := by
 induction h with
 | seq h k _ _ => intro hc; cases hc; exact .loop h k
 | seqx h he _ => intro hc; cases hc; exact .loopx h he
 | norm hn k ih => intro hc; exact .norm hn (ih hc)
 | normr k hn ih => intro hc; exact .normr (ih hc) hn
 | _ => intro hc; cases hc
theorem tL [BA] {b : IC} {st : St} {Q : Xt → St → Prop} (h : WX P T (.seq b (.loop b)) st Q) : WX P T (.loop b) st Q := by
 obtain ⟨e, s, h1, h2⟩ := h
 exact ⟨e, s, Cr h1 rfl, h2⟩
def mkN (bytes : Nat) (n : Int) : Option Nat := if 0 ≤ n ∧ bytes * n.toNat ≤ 281474976710656 ∧ n.toNat ≤ 9223372036854775807 then some n.toNat else none
theorem wmks [BA] {α : Type} (t : Nat) {sz bytes d : Nat} {z : PV} {x : DD} {g : Option (Nat × Bool)} {r : List Ins} {st : St} {K : St → Prop} {k : IntKind} {n : Int} {m : Nat} {f : α → PV} {e : α} (h : mkN bytes n = some m) (hg : UF st.s g = some true) (hx : x.ev st.s = some (.int k n)) (hz : z = f e) (hf : z.free = true) (ht : st.r t = none) (hty : IP t = none)
  (K' : Wr P T r ⟨upd st.s d (some (.slr t 0 m)), upd st.r t (some ⟨sz, true, (List.replicate m e).map f⟩)⟩ K) : Wr P T (⟨some d, .mks sz bytes z x, g⟩ :: r) st K := by
 unfold mkN at h
 split at h
 ·rename_i hc
  obtain ⟨h1, h2, h3⟩ := hc
  cases h
  refine ⟨st, _, C9.refl, .run hg (omks t hx (by omega) h2 h3 hf ht hty), ?_⟩
  simpa [St.put, List.map_replicate, hz] using K'
 ·cases h
theorem tH [BA] {ios : List Ins} {st st1 : St} {K : St → Prop} {io : Ins} (hn : C9 T st st1) (k : Wr P T (io :: ios) st1 K) : Wr P T (io :: ios) st K := wn hn k
end
end Go.Vd
end
section
set_option linter.unusedVariables false
set_option linter.unusedSimpArgs false
namespace Go.Gp
open Go.Vd Go.RowKit
def strings_IndexByte (N : Nat) (s : List UInt8) (c : UInt8) : Option Int := some (Lib.indexByte s c)
def stringslite_Index (N : Nat) (s p : List UInt8) : Option Int := match p with
 | [c] => some (Lib.indexByte s c)
 | _ => none
theorem UB {N : Nat} {s p : List UInt8} {r : Int} (h : stringslite_Index N s p = some r) : ∃ c, p = [c] ∧ r = Lib.indexByte s c := by
 unfold stringslite_Index at h
 split at h
 ·rename_i c; exact ⟨c, rfl, by simpa using h.symm⟩
 ·cases h
end Go.Gp
end
section
set_option linter.unusedVariables false
set_option linter.unusedSimpArgs false
namespace Go.Vd
open Go.RowKit
def strings_Count (N : Nat) (s p : List UInt8) : Option Int := match p with
 | [c] => some (Lib.countByte s c : Int)
 | _ => none
theorem X8 {N : Nat} {s p : List UInt8} {r : Int} (h : strings_Count N s p = some r) : ∃ c, p = [c] ∧ r = (Lib.countByte s c : Int) := by
 unfold strings_Count at h
 split at h
 ·rename_i c; exact ⟨c, rfl, by simpa using h.symm⟩
 ·cases h
section
variable {s : EY} {R : Rows}
end
section
variable {T : Nat → Bool}
theorem RU : ∀ l : List PV, PV.tks (fun _ => true) l = true
 | [] => rfl
 | p :: l => by rw [PV.tks, PV.tk_true, RU l]; rfl
theorem mO [BA] (t : Nat) {sz : Nat} {x y : PV} {st : St} (hs : ZR x.cells y.cells) (ht : st.r t = some ⟨sz, false, [x]⟩) (ho : y.cells.all PV.one = true) : C9 T st ⟨st.s, upd st.r t (some ⟨sz, false, [y]⟩)⟩ := by
 intro w0 O L n μ a w hL h
 have he : ∀ u row, (fun _ => true) u = true → st.r u = some row → μ u = μ u ∧ ∃ row', upd st.r t (some ⟨sz, false, [y]⟩) u = some row' ∧ row'.sz = row.sz ∧ row.cs.length ≤ row'.cs.length := by
  intro u row _ hu
  refine ⟨rfl, ?_⟩
  by_cases e : u = t
  ·subst e
   rw [ht] at hu
   cases hu
   exact ⟨_, upd_same .., rfl, Nat.le_refl _⟩
  ·exact ⟨row, by rw [upd_ne _ _ e]; exact hu, rfl, Nat.le_refl _⟩
 have hin : ∀ u row, upd st.r t (some ⟨sz, false, [y]⟩) u = some row → ∃ row', st.r u = some row' := by
  intro u row hu
  by_cases e : u = t
  ·subst e; exact ⟨_, ht⟩
  ·rw [upd_ne _ _ e] at hu; exact ⟨_, hu⟩
 have hO : ∀ b, b < w.heap.size → Av O μ (upd st.r t (some ⟨sz, false, [y]⟩)) b → Av O μ st.r b := by
  intro b _ hb
  rcases hb with hb | ⟨u, row, l, h1, h2, h3⟩
  ·exact .inl hb
  ·obtain ⟨row', h4⟩ := hin u row h1
   exact .inr ⟨u, row', l, h4, h2, h3⟩
 have hw : ∀ b, b < w.heap.size → ¬ Av O μ st.r b → w.heap[b]? = w.heap[b]? := fun _ _ _ => rfl
 refine ⟨μ, h.dfr, h.size, h.fr, h.out, fun j p hj => ?_, fun u row hu => ?_, fun u u' r r' l l' h1 h2 h3 h4 h5 => ?_, fun u r l h1 h2 => ?_, fun u hu => ?_⟩
 ·obtain ⟨v, hv, hr⟩ := h.slot j p hj
  exact ⟨v, hv, hr.mono (fun _ => true) hw hO he (PV.tk_true _)⟩
 ·simp only at hu
  by_cases e : u = t
  ·subst e
   rw [upd_same] at hu
   cases hu
   have k := h.row u _ ht
   refine ⟨k.sz, fun z hz => ?_, fun hn => ?_, fun l hl => ?_, fun q hq l hl => ?_⟩
   ·simp only [List.mem_singleton] at hz
    subst hz
    have := (k.el x (by simp)).1
    exact ⟨by rw [← hs.len]; exact this, fun p hp => List.all_eq_true.1 ho p hp⟩
   ·have := k.non hn
    simp at this
   ·obtain ⟨arr, ety, fz, h1, h2, h3, h4, h5⟩ := k.lie l hl
    refine ⟨arr, ety, fz, h1, h2, by simpa using h3, h4, fun i z j q hi hj => ?_⟩
    cases i with
    | succ i => simp at hi
    | zero =>
     simp only [List.getElem?_cons_zero, Option.some.injEq] at hi
     subst hi
     obtain ⟨p, hp, hsub⟩ := hs.get j q hj
     obtain ⟨v, hv, hc⟩ := h5 0 x j p rfl hp
     refine ⟨v, hv, ?_⟩
     unfold D6 at hc ⊢
     rw [if_neg (by simp)] at hc ⊢
     exact hsub _ _ _ _ _ (hc.mono (fun _ => true) hw hO he (PV.tk_true _))
   ·obtain ⟨e1, arr, fz, e2, e3⟩ := k.ty q hq l hl
    exact ⟨e1, arr, fz, e2, e3⟩
  ·rw [upd_ne _ _ e] at hu
   exact (h.row u row hu).mono (fun _ => true) hw hO he rfl (fun _ _ => rfl) (by unfold Row.tk; rw [RU]; simp)
 ·obtain ⟨s, hs'⟩ := hin u r h1
  obtain ⟨s', hs''⟩ := hin u' r' h2
  exact h.inj u u' s s' l l' hs' hs'' h3 h4 h5
 ·obtain ⟨s, hs'⟩ := hin u r h1
  exact h.own u s l hs' h2
 ·obtain ⟨h1, r, h2⟩ := h.keep u hu
  obtain ⟨_, row', h3, _⟩ := he u r rfl h2
  exact ⟨h1, row', h3⟩
end
end Go.Vd
end
section
set_option linter.unusedVariables false
set_option linter.unusedSimpArgs false
namespace Go.Vd
section
variable {P : Program} {T : Nat → Bool} {ds : List (List Nat)} {ios : List Ins} {n : Nat} {S : List Nat} {st fin : St}
def zT [BA] (P : Program) (T : Nat → Bool) (m : Nat) (ds : List (List Nat)) (ios : List Ins) (st fin fin' : St) : List (List Nat) → Prop
 | [] => True
 | U :: r => (∃ k, AnyW P T ds ios k ((List.range m).filter fun i => !U.contains i) (YZ ios U st fin) fin') ∧ zT P T m ds ios st fin fin' r
theorem zT.mem [BA] {m : Nat} {fin' : St} : ∀ {l : List (List Nat)}, zT P T m ds ios st fin fin' l → ∀ U ∈ l, ∃ k, AnyW P T ds ios k ((List.range m).filter fun i => !U.contains i) (YZ ios U st fin) fin'
 | [], _, i, h => by cases h
 | j :: r, ⟨h1, h2⟩, i, h => by
  rcases List.mem_cons.1 h with rfl | h
  ·exact h1
  ·exact zT.mem h2 i h
theorem Dq [BA] {m : Nat} {F : List Nat} {Q : Xt → St → Prop} (fin' : St) (l : List (List Nat)) (hl : kJ ds F = l)
  (h : jG P (ios.take m) st (fun fin => zT P T m ds ios st fin fin' l)) (q : Q .normal fin') : WX P T (.regf m F ds ios) st Q := by
 subst hl
 obtain ⟨fin, h1, h2⟩ := jG.steps h
 exact ⟨_, _, .regf h1 h2.mem, q⟩
def zU [BA] (P : Program) (T : Nat → Bool) (ds : List (List Nat)) (ios : List Ins) (n : Nat) (S : List Nat) (st fin : St) : List Nat → Prop
 | [] => True
 | i :: r => (∃ io, ios[i]? = some io ∧ Wr P T [io] st (fun s => AnyW P T ds ios n (i :: S) s fin)) ∧ zU P T ds ios n S st fin r
theorem zU.mem [BA] : ∀ {l : List Nat}, zU P T ds ios n S st fin l → ∀ i ∈ l, ∃ io, ios[i]? = some io ∧ Wr P T [io] st (fun s => AnyW P T ds ios n (i :: S) s fin)
 | [], _, i, h => by cases h
 | j :: r, ⟨h1, h2⟩, i, h => by
  rcases List.mem_cons.1 h with rfl | h
  ·exact h1
  ·exact zU.mem h2 i h
theorem yc [BA] {l : List Nat} (hr : p8 ds S = l) (hl : l ≠ []) (h : zU P T ds ios n S st fin l) : AnyW P T ds ios (n + 1) S st fin :=
 ⟨fun e => absurd (hr.symm.trans e) hl, fun i hi => h.mem i (hr ▸ hi)⟩
theorem yend [BA] (hr : p8 ds S = []) (h : C9 T st fin) : AnyW P T ds ios n S st fin := by
 cases n with
 | zero => exact ⟨hr, h⟩
 | succ n => exact ⟨fun _ => h, fun i hi => by rw [hr] at hi; cases hi⟩
def uP (S S' : List Nat) : Bool := S.all (fun x => S'.contains x) && S'.all (fun x => S.contains x)
theorem mM {S S' : List Nat} (h : uP S S' = true) (x : Nat) : S.contains x = S'.contains x := by
 unfold uP at h
 rw [Bool.and_eq_true, List.all_eq_true, List.all_eq_true] at h
 rw [Bool.eq_iff_iff]
 exact ⟨fun hx => h.1 x (List.contains_iff_mem.1 hx), fun hx => h.2 x (List.contains_iff_mem.1 hx)⟩
theorem aY {S S' : List Nat} (h : ∀ x, S.contains x = S'.contains x) : p8 ds S = p8 ds S' := by
 unfold p8
 congr 1
 funext i
 rw [h i]
 congr 1
 congr 1
 funext j
 rw [h j]
theorem AnyW.same [BA] : ∀ (n : Nat) (S S' : List Nat) (st : St), (∀ x, S.contains x = S'.contains x) → AnyW P T ds ios n S' st fin → AnyW P T ds ios n S st fin
 | 0, S, S', st, h, ⟨h1, h2⟩ => ⟨(aY h).trans h1, h2⟩
 | n + 1, S, S', st, h, ⟨h1, h2⟩ => ⟨fun e => h1 ((aY h).symm.trans e), fun i hi => by
  obtain ⟨io, hio, st0, st1, k1, k2, k3⟩ := h2 i (aY h ▸ hi)
  exact ⟨io, hio, st0, st1, k1, k2, AnyW.same n (i :: S) (i :: S') st1 (fun x => by simp only [List.contains_cons, h x]) k3⟩⟩
theorem AnyW.norm [BA] {S : List Nat} {st' : St} (hn : C9 T st st') (h : AnyW P T ds ios n S st' fin) : AnyW P T ds ios n S st fin := by
 cases n with
 | zero => exact ⟨h.1, hn.trans h.2⟩
 | succ n =>
  refine ⟨fun e => hn.trans (h.1 e), fun i hi => ?_⟩
  obtain ⟨io, hio, st0, st1, k1, k2, k3⟩ := h.2 i hi
  exact ⟨io, hio, st0, st1, hn.trans k1, k2, k3⟩
theorem AnyW.of [BA] {S S' : List Nat} {st' : St} (h : AnyW P T ds ios n S' st' fin) (hs : uP S S' = true) (hn : C9 T st st') : AnyW P T ds ios n S st fin := AnyW.norm hn (AnyW.same n S S' st' (mM hs) h)
end
end Go.Vd
end
section
set_option linter.unusedVariables false
set_option linter.unusedSimpArgs false
namespace Go.Vd
open Go.RowKit
def Z8 (l : List Nat) (t : Nat) : Bool := l.any fun u => Nat.beq t u
theorem fD {α : Type} : ∀ (m : List (Nat × α)) (t : Nat), (AX m t).isSome = Z8 (m.map (·.1)) t
 | [], t => rfl
 | (k, v) :: m, t => by
  unfold AX Z8
  rw [List.map_cons, List.any_cons]
  cases h : Nat.beq t k with
  | true => rfl
  | false => rw [cond_false, Bool.false_or]; exact fD m t
def r9 : List (Nat × Row) → List (Nat × Row) → Bool
 | [], _ => true
 | (t, r) :: l, mo => (match AX mo t with | some r' => Nat.beq r'.sz r.sz && Nat.beq r'.cs.length r.cs.length | none => false) && r9 l mo
theorem dD : ∀ {m mo : List (Nat × Row)}, r9 m mo = true → ∀ t row, AX m t = some row → ∃ row', AX mo t = some row' ∧ row'.sz = row.sz ∧ row'.cs.length = row.cs.length
 | [], _, _, t, row, h => by cases h
 | (k, r) :: l, mo, hb, t, row, h => by
  rw [r9, Bool.and_eq_true] at hb
  unfold AX at h
  cases hk : Nat.beq t k with
  | true =>
   rw [hk, cond_true] at h
   cases h
   have := Nat.eq_of_beq_eq_true hk
   subst this
   have h1 := hb.1
   cases ho : AX mo t with
   | none => simp [ho] at h1
   | some r' =>
    simp only [ho, Bool.and_eq_true, Nat.beq_eq] at h1
    exact ⟨r', rfl, h1.1, h1.2⟩
  | false => rw [hk, cond_false] at h; exact dD hb.2 t row h
section
variable {P : Program}
theorem xsatO [BA] (m mo : List (Nat × Row)) (hm : P.follows .mixedOrders = true) {f : FuncId} {fn : Func} {n : Nat} {code : IC} {rv : List YV} (hf : P.funcs[f]? = some fn) (hc : BV P fn = some ⟨n, code, rv⟩) {ps rs : List PV} {res : PV} (hr : aX rs = res) (hlen : Nat.ble ps.length n = true) (hb : r9 m mo = true)
  (h : WX P (Z8 (m.map (·.1))) code ⟨s0 n ps, AX m⟩ fun e st' => (∀ id, e ≠ .exit id) ∧ gets st' rv = some rs ∧ PV.tks (fun t => (AX mo t).isSome) rs = true ∧ JK st'.r mo ∧ IK (fun t => (AX mo t).isSome) (mo.map (·.2)) = true) : Sat P f (AX m) ps res (AX mo) := by
 obtain ⟨e, s, h1, h2, h3, h4, h5, h6⟩ := h
 subst hr
 have e1 : (fun t => (AX m t).isSome) = Z8 (m.map (·.1)) := funext (fD m)
 refine mK hm hf hc (Nat.le_of_ble_eq_true hlen) (e1 ▸ h1) h2 h3 h4 (fun t row h => ⟨h5.get t row h, JY h6 row (NW h)⟩) (fun t row h => dD hb t row h)
end
section
variable {T : Nat → Bool}
def vN {α : Type} (l : List Nat) (m : List (Nat × α)) : Bool := l.all fun t => (AX m t).isSome
theorem La [BA] (L : List Nat) {st : St} {l : List (Nat × PV)} {m : List (Nat × Row)} (hL : vN L m = true) (hs : JK st.s l) (hr : JK st.r m) (h1 : PV.tks (fun t => (AX m t).isSome) (l.map (·.2)) = true) (h2 : IK (fun t => (AX m t).isSome) (m.map (·.2)) = true) : C9 (Z8 L) st ⟨AX l, AX m⟩ :=
 yP l m hs hr h1 h2 fun t ht => by
  unfold Z8 at ht
  obtain ⟨u, hu, htu⟩ := List.any_eq_true.1 ht
  have := Nat.eq_of_beq_eq_true htu
  subst this
  exact List.all_eq_true.1 hL t hu
end
abbrev eErr (k : Nat) (b : Bool) : PV := .err k b
section
variable {s : EY} {R : Rows}
theorem Gd {k : Nat} {b : Bool} {x : DD} (hx : x.ev s = some (.err k b)) : pop s R (.eqi true x) = some (.bool b) := by
 simp only [pop, hx, Option.bind_some]; rfl
theorem lG {i : Int} {n x : Nat} (h : NF i n = some x) : 0 ≤ i ∧ i < (n : Int) ∧ x = i.toNat ∧ x < n := by
 unfold NF at h
 split at h
 ·rename_i hc
  have e : i.toNat = x := by simpa using h
  subst e
  exact ⟨hc.1, hc.2, rfl, by omega⟩
 ·cases h
theorem De {i : Int} {n x : Nat} (h : NF i n = some x) : Nat.ble (x + 1) n = true := Nat.ble_eq_true_of_le (lG h).2.2.2
theorem p_ixq {t x n : Nat} {i : Int} {kk : IntKind} {a b : DD} {row : Row} (h : NF i n = some x) (ha : a.ev s = some (.ptr t 0 0)) (hb : b.ev s = some (.int kk i)) (hr : R t = some row) (hsz : Nat.beq row.sz n = true) : pop s R (.ixq n 1 a b) = some (.ptr t 0 x) := by
 obtain ⟨h1, h2, h3, h4⟩ := lG h
 have := Nat.eq_of_beq_eq_true hsz
 simp only [pop, ha, hb, OC, dR, hr]
 subst h3
 simp only [Nat.mul_one, Nat.zero_add]
 rw [if_pos]
 refine ⟨h1, h2, ?_⟩
 omega
theorem vF {α : Type} {t x n : Nat} {a : DD} {pr : Bool} {l : List α} {f : α → PV} {v : α} (h : l[x]? = some v) (ha : a.ev s = some (.ptr t 0 x)) (hr : R t = some ⟨n, pr, [.agg (l.map f)]⟩) : pop s R (.load 1 false a) = some (f v) := by
 simp only [pop, ha, Option.bind_some, U5, hr, List.getElem?_cons_zero, PV.cells]
 simp [U4, h]
end
section
variable {P : Program} {T : Nat → Bool}
theorem wstq [BA] {α : Type} {n t j : Nat} {x y : DD} {dst : Option Nat} {g : Option (Nat × Bool)} {r : List Ins} {st : St} {K : St → Prop} {l : List α} {f : α → PV} {e' w : α} {pr : Bool} (hj : l[j]? = some w) (hg : UF st.s g = some true) (hx : x.ev st.s = some (.ptr t 0 j)) (hr : st.r t = some ⟨n, pr, [.agg (l.map f)]⟩)
  (hy : y.ev st.s = some (f e')) (hn : Nat.ble (j + 1) n = true) (h0 : (f e').cells = [f e']) (h1 : (f e').one = true) (hpr : pr = true → (f e').free = true)
  (k : Wr P T r (St.put ⟨st.s, upd st.r t (some ⟨n, pr, [.agg ((l.set j e').map f)]⟩)⟩ dst .undef) K) : Wr P T (⟨dst, .store 1 x y, g⟩ :: r) st K := by
 obtain ⟨hlt, _⟩ := List.getElem?_eq_some_iff.1 hj
 refine ED (e' := .agg ((l.set j e').map f)) hg hx hr hy (by rw [h0]; rfl) rfl (by rw [h0]; simp [h1]) hn hpr ?_ k
 rw [h0]
 simp only [uH, List.length_singleton]
 congr 1
 rw [List.map_set, List.set_eq_take_append_cons_drop, if_pos (by simpa using hlt)]
 simp
end
section
variable {P : Program} {T : Nat → Bool}
inductive gK (Ri R : Rows) : List PV → List PV → Prop
 | nil : gK Ri R [] []
 | cons {p q : PV} {l m : List PV} (h : zX (p.bor Ri R) q) (k : gK Ri R l m) : gK Ri R (p :: l) (q :: m)
theorem gK.subs {Ri R : Rows} {l m : List PV} (h : gK Ri R l m) : ZR (l.map (PV.bor Ri R)) m := by
 induction h with
 | nil => exact .nil
 | cons h _ ih => exact .cons h ih
theorem vI [BA] (m mo : List (Nat × Row)) {d : Option Nat} {f : FuncId} {xs : List DD} {st : St} {ps qs : List PV} {res : PV} (hs : Sat P f (AX m) qs res (AX mo)) (h : evs st.s xs = some ps) (hq : gK (AX m) st.r ps qs) (hr : JK st.r m)
  (htk : IK (fun t => (AX m t).isSome) (m.map (·.2)) = true) (hf : UO st.r (AX m) mo = true) (hfr : PV.tks (fun t => (AX m t).isSome) ps = true) : XZ P T (.call f xs) d st (St.put ⟨st.s, N7 (AX mo) st.r⟩ d res) :=
 olend m mo (hs.subs hq.subs) h rfl hr htk hf hfr
theorem Kj [BA] {r : Rows} {mo : List (Nat × Row)} (hf : UO r AC mo = true) : ∀ t row, AX mo t = some row → r t = none := fun t row h => QV hf t row h rfl
end
theorem boxpr [BA] {T : Nat → Bool} (t : Nat) {sz : Nat} {x : PV} {st : St} (ht : st.r t = some ⟨sz, false, [x]⟩) (hf : x.cells.all PV.free = true) : C9 T st ⟨st.s, upd st.r t (some ⟨sz, true, [x]⟩)⟩ := by
 intro w0 O L n μ a w hL h
 have he : ∀ u row, (fun _ => true) u = true → st.r u = some row → μ u = μ u ∧ ∃ row', upd st.r t (some ⟨sz, true, [x]⟩) u = some row' ∧ row'.sz = row.sz ∧ row.cs.length ≤ row'.cs.length := by
  intro u row _ hu
  refine ⟨rfl, ?_⟩
  by_cases e : u = t
  ·subst e
   rw [ht] at hu
   cases hu
   exact ⟨_, upd_same .., rfl, Nat.le_refl _⟩
  ·exact ⟨row, by rw [upd_ne _ _ e]; exact hu, rfl, Nat.le_refl _⟩
 have hin : ∀ u row, upd st.r t (some ⟨sz, true, [x]⟩) u = some row → ∃ row', st.r u = some row' := by
  intro u row hu
  by_cases e : u = t
  ·subst e; exact ⟨_, ht⟩
  ·rw [upd_ne _ _ e] at hu; exact ⟨_, hu⟩
 have hO : ∀ b, b < w.heap.size → Av O μ (upd st.r t (some ⟨sz, true, [x]⟩)) b → Av O μ st.r b := by
  intro b _ hb
  rcases hb with hb | ⟨u, row, l, h1, h2, h3⟩
  ·exact .inl hb
  ·obtain ⟨row', h4⟩ := hin u row h1
   exact .inr ⟨u, row', l, h4, h2, h3⟩
 have hw : ∀ b, b < w.heap.size → ¬ Av O μ st.r b → w.heap[b]? = w.heap[b]? := fun _ _ _ => rfl
 refine ⟨μ, h.dfr, h.size, h.fr, h.out, fun j p hj => ?_, fun u row hu => ?_, fun u u' r r' l l' h1 h2 h3 h4 h5 => ?_, fun u r l h1 h2 => ?_, fun u hu => ?_⟩
 ·obtain ⟨v, hv, hr⟩ := h.slot j p hj
  exact ⟨v, hv, hr.mono (fun _ => true) hw hO he (PV.tk_true _)⟩
 ·simp only at hu
  by_cases e : u = t
  ·subst e
   rw [upd_same] at hu
   cases hu
   have k := h.row u _ ht
   refine ⟨k.sz, fun z hz => ?_, fun hn => ?_, fun l hl => ?_, fun q hq l hl => ?_⟩
   ·exact k.el z hz
   ·have := k.non hn
    simp at this
   ·obtain ⟨arr, ety, fz, h1, h2, h3, h4, h5⟩ := k.lie l hl
    refine ⟨arr, ety, fz, h1, h2, by simpa using h3, h4, fun i z j q hi hj => ?_⟩
    obtain ⟨v, hv, hc⟩ := h5 i z j q hi hj
    refine ⟨v, hv, ?_⟩
    unfold D6 at hc ⊢
    rw [if_neg (by simp)] at hc
    rw [if_pos rfl]
    have hz : z = x := by
     cases i with
     | zero => simpa using hi.symm
     | succ i => simp at hi
    subst hz
    have hfr : q.free = true := List.all_eq_true.1 hf q (List.mem_of_getElem? hj)
    exact (hc.free hfr).frame (fun _ _ _ => rfl) hO
   ·obtain ⟨e1, arr, fz, e2, e3⟩ := k.ty q hq l hl
    exact ⟨e1, arr, fz, e2, fun hp => by cases hp⟩
  ·rw [upd_ne _ _ e] at hu
   exact (h.row u row hu).mono (fun _ => true) hw hO he rfl (fun _ _ => rfl) (by unfold Row.tk; rw [RU]; simp)
 ·obtain ⟨s, hs'⟩ := hin u r h1
  obtain ⟨s', hs''⟩ := hin u' r' h2
  exact h.inj u u' s s' l l' hs' hs'' h3 h4 h5
 ·obtain ⟨s, hs'⟩ := hin u r h1
  exact h.own u s l hs' h2
 ·obtain ⟨h1, r, h2⟩ := h.keep u hu
  obtain ⟨_, row', h3, _⟩ := he u r rfl h2
  exact ⟨h1, row', h3⟩
end Go.Vd
end
section
set_option linter.unusedVariables false
set_option linter.unusedSimpArgs false
namespace Go.Vd
open Go.RowKit Go.Sort
theorem aN [BA] {P : Program} {f : FuncId} {ps : List PV} {vs : List Value} {res : PV} (hps : lits ps = some vs) (h : ∀ w, BA.ok w → Calls P f vs.toArray w fun e w' => ∃ v, e = .returned v ∧ (∀ O, DZ w' O res v) ∧ Below w.heap.size w w') : Sat P f AC ps res AC := by
 intro O μ w us hO hin hargs
 have e := bE hps hargs
 subst e
 refine (h w hO.ok).mono ?_
 rintro e w' ⟨v, rfl, hr, hb⟩
 refine ⟨v, μ, rfl, ⟨hb.os, hb.tape, hb.output, hb.size, fun b hlt _ => hb.block b hlt⟩, ⟨fun t row ht => by simp [AC] at ht, fun t t' row row' l l' ht => by simp [AC] at ht, fun t row l ht => by simp [AC] at ht⟩,
  fun t row ht => by simp [AC] at ht, fun t row l ht => by simp [AC] at ht, .base _ _ (hr _)⟩
theorem below_grow (w : World) (k : Nat) (os : Array Obj) : Below w.heap.size w (grow (w.drewN k) os) := by
 refine ⟨rfl, rfl, rfl, by simp [grow, World.drewN], fun b hb => ?_⟩
 simp only [grow, World.drewN]
 exact Array.getElem?_append_left hb
end Go.Vd
namespace Go.Gp
open Go.Vd Go.RowKit Go.Sort
def dig : Nat → Nat → List UInt8 → List UInt8
 | 0, _, a => a
 | f + 1, u, a => if u < 10 then UInt8.ofNat (48 + u) :: a else dig f (u / 10) (UInt8.ofNat (48 + u % 10) :: a)
theorem nT : ∀ (f u : Nat) (a : List UInt8), u < 10 ^ f → 0 < f → dig f u a = Lib.decDigits u ++ a
 | 0, u, a, h, h0 => by omega
 | f + 1, u, a, h, h0 => by
  rw [dig, Lib.decDigits]
  by_cases hu : u < 10
  ·rw [if_pos hu, dif_pos hu]; rfl
  ·rw [if_neg hu, dif_neg hu]
   have h1 : u / 10 < 10 ^ f := by rw [Nat.pow_succ] at h; omega
   have h2 : 0 < f := by
    cases f with
    | zero => simp at h; omega
    | succ f => omega
   rw [nT f (u / 10) _ h1 h2]
   simp
def qM (n : Int) : List UInt8 := if n < 0 then 45 :: dig 20 n.natAbs [] else dig 20 n.toNat []
theorem kN {n : Int} (h0 : -9223372036854775808 ≤ n) (h1 : n ≤ 9223372036854775807) : Lib.itoa n = qM n := by
 unfold Lib.itoa qM
 split
 ·rw [nT 20 _ _ (by omega) (by omega), List.append_nil]
 ·rw [nT 20 _ _ (by omega) (by omega), List.append_nil]
def JR (N : Nat) (n b : Int) : Option (List UInt8) := if b = 10 ∧ -9223372036854775808 ≤ n ∧ n ≤ 9223372036854775807 then some (qM n) else none
def strconv_Itoa (N : Nat) (n : Int) : Option (List UInt8) := if -9223372036854775808 ≤ n ∧ n ≤ 9223372036854775807 then some (qM n) else none
def KM (N : Nat) (s : List UInt8) (b k : Int) : Option (Int × Bool) :=
 if b = 10 ∧ k = 64 ∧ s.length ≤ 281474976710656 then some (match Lib.parseIntB 64 s with | .ok v => (v, false) | Lib.NumEnd.syntax => (0, true) | .range => (Lib.intSat 64 s, true)) else none
theorem Al [BA] {P : Program} {f : FuncId} (hf : ∀ (n : Int), -9223372036854775808 ≤ n → n ≤ 9223372036854775807 → ∀ w, BA.ok w → Calls P f #[.int .i64 n, .int .i64 10] w fun e w' => e = .returned (.string ⟨(Lib.itoa n).toArray⟩) ∧ ∃ k os, w' = grow (w.drewN k) os)
  {N : Nat} {n b : Int} {r : List UInt8} (h : JR N n b = some r) : Sat P f AC [.int .i64 n, .int .i64 b] (.str r) AC := by
 unfold JR at h
 split at h
 ·rename_i hc
  obtain ⟨rfl, h0, h1⟩ := hc
  cases h
  refine aN (vs := [.int .i64 n, .int .i64 10]) rfl fun w hw => (hf n h0 h1 w hw).mono ?_
  rintro e w' ⟨rfl, k, os, rfl⟩
  exact ⟨_, rfl, fun O => by rw [kN h0 h1]; exact .str _, below_grow w k os⟩
 ·cases h
theorem uO [BA] {P : Program} {f : FuncId} (hf : ∀ (n : Int), -9223372036854775808 ≤ n → n ≤ 9223372036854775807 → ∀ w, BA.ok w → Calls P f #[.int .i64 n] w fun e w' => e = .returned (.string ⟨(Lib.itoa n).toArray⟩) ∧ ∃ k os, w' = grow (w.drewN k) os)
  {N : Nat} {n : Int} {r : List UInt8} (h : strconv_Itoa N n = some r) : Sat P f AC [.int .i64 n] (.str r) AC := by
 unfold strconv_Itoa at h
 split at h
 ·rename_i hc
  obtain ⟨h0, h1⟩ := hc
  cases h
  refine aN (vs := [.int .i64 n]) rfl fun w hw => (hf n h0 h1 w hw).mono ?_
  rintro e w' ⟨rfl, k, os, rfl⟩
  exact ⟨_, rfl, fun O => by rw [kN h0 h1]; exact .str _, below_grow w k os⟩
 ·cases h
theorem uN [BA] {P : Program} {f et : Nat} {ne : Nat} (hok : ∀ (s : ByteArray) (v : Int), s.size ≤ 281474976710656 → Lib.parseIntB 64 s.data.toList = .ok v → ∀ w, Calls P f #[.string s, .int .i64 10, .int .i64 64] w fun e w' => e = .returned (.tuple #[.int .i64 v, .nilIface]) ∧ (w' = w ∨ ∃ t, w' = Lib.bytesWorld w ne t))
  (hsyn : ∀ (s : ByteArray), s.size ≤ 281474976710656 → Lib.parseIntB 64 s.data.toList = Lib.NumEnd.syntax → ∀ w, BA.ok w → Calls P f #[.string s, .int .i64 10, .int .i64 64] w fun e w' => ∃ N, e = .returned (.tuple #[.int .i64 0, .iface et (.pointer (some ⟨N, 0, none⟩))]) ∧ Below w.heap.size w w')
  (hran : ∀ (s : ByteArray), s.size ≤ 281474976710656 → Lib.parseIntB 64 s.data.toList = .range → ∀ w, BA.ok w → Calls P f #[.string s, .int .i64 10, .int .i64 64] w fun e w' => ∃ N, e = .returned (.tuple #[.int .i64 (Lib.intSat 64 s.data.toList), .iface et (.pointer (some ⟨N, 0, none⟩))]) ∧ Below w.heap.size w w')
  {N : Nat} {s : List UInt8} {b k : Int} {r : Int × Bool} (h : KM N s b k = some r) : Sat P f AC [.str s, .int .i64 b, .int .i64 k] (.tup [.int .i64 r.1, eErr et r.2]) AC := by
 have pair : ∀ {w : World} {O : Nat → Prop} {n : Int} {p : PV} {v : Value}, DZ w O p v → DZ w O (.tup [.int .i64 n, p]) (.tuple #[.int .i64 n, v]) := by
  intro w O n p v hp
  refine .tup [.int .i64 n, p] [.int .i64 n, v] rfl fun j q u hj hu => ?_
  match j, hj, hu with
  | 0, hj, hu => simp at hj hu; subst hj; subst hu; exact .int _ _
  | 1, hj, hu => simp at hj hu; subst hj; subst hu; exact hp
  | j + 2, hj, hu => simp at hj
 unfold KM at h
 split at h
 ·rename_i hc
  obtain ⟨rfl, rfl, hl⟩ := hc
  have hsz : (⟨s.toArray⟩ : ByteArray).size ≤ 281474976710656 := by simpa [ByteArray.size] using hl
  refine aN (vs := [.string ⟨s.toArray⟩, .int .i64 10, .int .i64 64]) rfl fun w hw => ?_
  rcases hp : Lib.parseIntB 64 s with v | _ | _
  ·skip
   rw [hp] at h
   cases h
   refine (hok ⟨s.toArray⟩ v hsz (by simpa using hp) w).mono ?_
   rintro e w' ⟨rfl, hw'⟩
   refine ⟨_, rfl, fun O => pair (.errN et), ?_⟩
   rcases hw' with rfl | ⟨t, rfl⟩
   ·exact .refl _ _
   ·exact Lib.bytesWorld_below w _ t
  ·skip
   rw [hp] at h
   cases h
   refine (hsyn ⟨s.toArray⟩ hsz (by simpa using hp) w hw).mono ?_
   rintro e w' ⟨N, rfl, hb⟩
   exact ⟨_, rfl, fun O => pair (.errS et _), hb⟩
  ·skip
   rw [hp] at h
   cases h
   refine (hran ⟨s.toArray⟩ hsz (by simpa using hp) w hw).mono ?_
   rintro e w' ⟨N, rfl, hb⟩
   exact ⟨_, rfl, fun O => pair (.errS et _), hb⟩
 ·cases h
end Go.Gp
end
section
namespace Go.Gp
open Go.Vd
def SL {α : Type} (d : PV → Option α) : List PV → Option (List α)
 | [] => some []
 | p :: l => Option.bind (d p) fun x => Option.bind (SL d l) fun r => some (x :: r)
theorem G5 {α : Type} {d : PV → Option α} {e : α → PV} (hd : ∀ {p x}, d p = some x → p = e x) : ∀ {l : List PV} {r : List α}, SL d l = some r → l = List.map e r
 | [], r, h => by cases h; rfl
 | p :: l, r, h => by
  rw [SL, Option.bind_eq_some_iff] at h
  obtain ⟨x, hx, h⟩ := h
  rw [Option.bind_eq_some_iff] at h
  obtain ⟨r', hr, h⟩ := h
  cases h
  rw [hd hx, G5 hd hr]; rfl
end Go.Gp
end
section
set_option linter.unusedVariables false
set_option linter.unusedSimpArgs false
namespace Go.Vd
open Go.RowKit
inductive XY (Q : Rows → Prop) : List PV → List PV → Prop
 | nil : XY Q [] []
 | cons {p q : PV} {l m : List PV} (h : ∀ w O μ R v, Q R → D8 w O μ R p v → D8 w O μ R q v) (k : XY Q l m) : XY Q (p :: l) (q :: m)
theorem XY.len {Q : Rows → Prop} : ∀ {l m : List PV}, XY Q l m → l.length = m.length
 | _, _, .nil => rfl
 | _, _, .cons _ k => by simp [k.len]
theorem XY.get {Q : Rows → Prop} : ∀ {l m : List PV}, XY Q l m → ∀ (j : Nat) (q : PV), m[j]? = some q → ∃ p, l[j]? = some p ∧ ∀ w O μ R v, Q R → D8 w O μ R p v → D8 w O μ R q v
 | _, _, .nil, j, q, h => by simp at h
 | _, _, .cons h k, 0, q, e => by simp at e; subst e; exact ⟨_, rfl, h⟩
 | _, _, .cons h k, j + 1, q, e => by simpa using k.get j q (by simpa using e)
theorem RV {Q : Rows → Prop} : ∀ l : List PV, XY Q l l
 | [] => .nil
 | p :: l => .cons (fun _ _ _ _ _ _ h => h) (RV l)
theorem ZV {t sz : Nat} {pr : Bool} : ∀ w O μ (R : Rows) v, R t = some ⟨sz, pr, []⟩ → D8 w O μ R .nl v → D8 w O μ R (.slr t 0 0) v := by
 intro w O μ R v hR hr
 cases hr with
 | base _ _ h => cases h with | nl => exact .slr0 t 0 ⟨sz, pr, []⟩ none hR (Nat.le_refl _)
section
variable {T : Nat → Bool}
theorem iJ [BA] (t sz : Nat) (pr : Bool) {st : St} (ht : st.r t = none) (hz : Nat.ble 1 sz = true) : C9 T st ⟨st.s, upd st.r t (some ⟨sz, pr, []⟩)⟩ := by
 intro w0 O L n μ a w hL h
 exact ⟨_, h.empty t ht sz (Nat.le_of_ble_eq_true hz) pr⟩
theorem oW [BA] (t : Nat) {Q : Rows → Prop} {sz : Nat} {x y : PV} {st : St} (hs : XY Q x.cells y.cells) (hQ : Q (upd st.r t (some ⟨sz, false, [y]⟩))) (ht : st.r t = some ⟨sz, false, [x]⟩) (ho : y.cells.all PV.one = true) : C9 T st ⟨st.s, upd st.r t (some ⟨sz, false, [y]⟩)⟩ := by
 intro w0 O L n μ a w hL h
 have he : ∀ u row, (fun _ => true) u = true → st.r u = some row → μ u = μ u ∧ ∃ row', upd st.r t (some ⟨sz, false, [y]⟩) u = some row' ∧ row'.sz = row.sz ∧ row.cs.length ≤ row'.cs.length := by
  intro u row _ hu
  refine ⟨rfl, ?_⟩
  by_cases e : u = t
  ·subst e
   rw [ht] at hu
   cases hu
   exact ⟨_, upd_same .., rfl, Nat.le_refl _⟩
  ·exact ⟨row, by rw [upd_ne _ _ e]; exact hu, rfl, Nat.le_refl _⟩
 have hin : ∀ u row, upd st.r t (some ⟨sz, false, [y]⟩) u = some row → ∃ row', st.r u = some row' := by
  intro u row hu
  by_cases e : u = t
  ·subst e; exact ⟨_, ht⟩
  ·rw [upd_ne _ _ e] at hu; exact ⟨_, hu⟩
 have hO : ∀ b, b < w.heap.size → Av O μ (upd st.r t (some ⟨sz, false, [y]⟩)) b → Av O μ st.r b := by
  intro b _ hb
  rcases hb with hb | ⟨u, row, l, h1, h2, h3⟩
  ·exact .inl hb
  ·obtain ⟨row', h4⟩ := hin u row h1
   exact .inr ⟨u, row', l, h4, h2, h3⟩
 have hw : ∀ b, b < w.heap.size → ¬ Av O μ st.r b → w.heap[b]? = w.heap[b]? := fun _ _ _ => rfl
 refine ⟨μ, h.dfr, h.size, h.fr, h.out, fun j p hj => ?_, fun u row hu => ?_, fun u u' r r' l l' h1 h2 h3 h4 h5 => ?_, fun u r l h1 h2 => ?_, fun u hu => ?_⟩
 ·obtain ⟨v, hv, hr⟩ := h.slot j p hj
  exact ⟨v, hv, hr.mono (fun _ => true) hw hO he (PV.tk_true _)⟩
 ·simp only at hu
  by_cases e : u = t
  ·subst e
   rw [upd_same] at hu
   cases hu
   have k := h.row u _ ht
   refine ⟨k.sz, fun z hz => ?_, fun hn => ?_, fun l hl => ?_, fun q hq l hl => ?_⟩
   ·simp only [List.mem_singleton] at hz
    subst hz
    have := (k.el x (by simp)).1
    exact ⟨by rw [← hs.len]; exact this, fun p hp => List.all_eq_true.1 ho p hp⟩
   ·have := k.non hn
    simp at this
   ·obtain ⟨arr, ety, fz, h1, h2, h3, h4, h5⟩ := k.lie l hl
    refine ⟨arr, ety, fz, h1, h2, by simpa using h3, h4, fun i z j q hi hj => ?_⟩
    cases i with
    | succ i => simp at hi
    | zero =>
     simp only [List.getElem?_cons_zero, Option.some.injEq] at hi
     subst hi
     obtain ⟨p, hp, hsub⟩ := hs.get j q hj
     obtain ⟨v, hv, hc⟩ := h5 0 x j p rfl hp
     refine ⟨v, hv, ?_⟩
     unfold D6 at hc ⊢
     rw [if_neg (by simp)] at hc ⊢
     exact hsub _ _ _ _ _ hQ (hc.mono (fun _ => true) hw hO he (PV.tk_true _))
   ·obtain ⟨e1, arr, fz, e2, e3⟩ := k.ty q hq l hl
    exact ⟨e1, arr, fz, e2, e3⟩
  ·rw [upd_ne _ _ e] at hu
   exact (h.row u row hu).mono (fun _ => true) hw hO he rfl (fun _ _ => rfl) (by unfold Row.tk; rw [RU]; simp)
 ·obtain ⟨s, hs'⟩ := hin u r h1
  obtain ⟨s', hs''⟩ := hin u' r' h2
  exact h.inj u u' s s' l l' hs' hs'' h3 h4 h5
 ·obtain ⟨s, hs'⟩ := hin u r h1
  exact h.own u s l hs' h2
 ·obtain ⟨h1, r, h2⟩ := h.keep u hu
  obtain ⟨_, row', h3, _⟩ := he u r rfl h2
  exact ⟨h1, row', h3⟩
def pI (sz : Nat) : List PV → Bool
 | [] => true
 | p :: l => Nat.beq p.cells.length sz && p.cells.all PV.one && pI sz l
theorem bC {sz : Nat} : ∀ {l : List PV}, pI sz l = true → ∀ p ∈ l, p.cells.length = sz ∧ ∀ q ∈ p.cells, q.one = true
 | [], _, p, h => by cases h
 | x :: l, h, p, hp => by
  rw [pI, Bool.and_eq_true, Bool.and_eq_true] at h
  rcases List.mem_cons.1 hp with e | e
  ·subst e; exact ⟨Nat.eq_of_beq_eq_true h.1.1, fun q hq => List.all_eq_true.1 h.1.2 q hq⟩
  ·exact bC h.2 p e
theorem wbslp [BA] {P : Program} (t : Nat) {sz d : Nat} {xs : List DD} {g : Option (Nat × Bool)} {r : List Ins} {st : St} {K : St → Prop} {ps : List PV} (hg : UF st.s g = some true) (hp : evs st.s xs = some ps) (hel : pI sz ps = true) (ht : st.r t = none) (hty : IP t = none)
  (k : Wr P T r ⟨upd st.s d (some (.slr t 0 ps.length)), upd st.r t (some ⟨sz, false, ps⟩)⟩ K) : Wr P T (⟨some d, .bsl sz xs, g⟩ :: r) st K :=
 ⟨st, _, C9.refl, .run hg (.bslp ps t hp (bC hel) ht hty), k⟩
end
theorem uU [BA] {O : Nat → Prop} {μ : Mu} {w w' : World} {e : TypeId} {sz t : Nat} {xs : List PV} {news : List Value} {v' : Value} (hO : Og w O) (hsz : 0 < sz) (hty : IP t = none)
  (hel : ∀ x ∈ xs, x.cells.length = sz ∧ ∀ p ∈ x.cells, p.one = true)
  (hnew : ∀ (i : Nat) (x : PV) (j : Nat) (p : PV), xs[i]? = some x → x.cells[j]? = some p → ∃ v, news[i * sz + j]? = some v ∧ DZ w O p v)
  (hown : w'.ownsRow w.heap.size e sz v' xs.length news) (hb : Below w.heap.size w w') :
  ∃ μ', Fr (OM μ AC) w w' ∧ U9 w' O μ' (AX [(t, ⟨sz, true, xs⟩)]) ∧ (∀ u row l, AX [(t, (⟨sz, true, xs⟩ : Row))] u = some row → μ' u = some l → w.heap.size ≤ l.b) ∧ D8 w' (Av O μ' (AX [(t, ⟨sz, true, xs⟩)])) μ' (AX [(t, ⟨sz, true, xs⟩)]) (.slr t 0 xs.length) v' := by
 have hR : ∀ u row, AX [(t, (⟨sz, true, xs⟩ : Row))] u = some row → u = t ∧ row = ⟨sz, true, xs⟩ := by
  intro u row h
  unfold AX at h
  cases hu : Nat.beq u t with
  | true => rw [hu] at h; cases h; exact ⟨Nat.eq_of_beq_eq_true hu, rfl⟩
  | false => rw [hu] at h; simp [AX] at h
 have hRt : AX [(t, (⟨sz, true, xs⟩ : Row))] t = some ⟨sz, true, xs⟩ := by unfold AX; rw [FM]; rfl
 have hfr : Fr (OM μ AC) w w' := ⟨hb.os, hb.tape, hb.output, hb.size, fun b hlt _ => hb.block b hlt⟩
 rcases hown with ⟨hl, ⟨rfl, h0⟩ | ⟨g, cap, cur, rfl, hg, hcell, hn, hcap, hsize, htake⟩⟩
 ·have hx : xs = [] := List.length_eq_zero_iff.1 h0
  subst hx
  refine ⟨fun _ => none, hfr, ⟨fun u row h => ?_, fun u u' r r' l l' _ _ h _ _ => (by cases h), fun u r l _ h => (by cases h)⟩, fun u row l _ h => (by cases h), ?_⟩
  ·obtain ⟨rfl, rfl⟩ := hR u row h
   exact ⟨hsz, fun x hx => (by cases hx), fun _ => rfl, fun l h => (by cases h), fun k hk => (by rw [hty] at hk; cases hk)⟩
  ·exact .slr0 t 0 _ none hRt (Nat.le_refl _)
 ·refine ⟨fun u => if u = t then some ⟨g, 0, cap * sz⟩ else none, hfr, ?_, ?_, ?_⟩
  ·have hown' : ∀ b, b < w.heap.size → Av O (fun u => if u = t then some ⟨g, 0, cap * sz⟩ else none) (AX [(t, ⟨sz, true, xs⟩)]) b → O b := by
    rintro b hlt (h | ⟨u, row, l, h1, h2, h3⟩)
    ·exact h
    ·simp only at h2
     split at h2
     ·cases h2; simp only at h3; omega
     ·cases h2
   refine ⟨fun u row h => ?_, fun u u' r r' l l' h1 h2 _ _ _ => (hR u r h1).1.trans (hR u' r' h2).1.symm, fun u r l h1 h2 => ?_⟩
   ·obtain ⟨rfl, rfl⟩ := hR u row h
    refine ⟨hsz, hel, fun h => by simp at h, fun l h => ?_, fun k hk => by rw [hty] at hk; cases hk⟩
    have h' : some (⟨g, 0, cap * sz⟩ : Loc) = some l := by simpa using h
    cases h'
    refine ⟨cur, e, (0, 0), hcell, by simp only; omega, Nat.mul_le_mul_right _ hn, fun j _ _ => by simp, fun i x j p hi hj => ?_⟩
    obtain ⟨v, hv, hrel⟩ := hnew i x j p hi hj
    refine ⟨v, ?_, ?_⟩
    ·have hlt : i * sz + j < news.length := (List.getElem?_eq_some_iff.1 hv).1
     rw [← htake, List.getElem?_take_of_lt (by omega)] at hv
     simpa using hv
    ·unfold D6
     rw [if_pos rfl]
     exact hrel.frame (fun b hlt _ => hb.block b hlt) hown'
   ·replace h2 : (if u = t then some (⟨g, 0, cap * sz⟩ : Loc) else none) = some l := h2
    split at h2
    ·cases h2
     simp only
     refine ⟨fun h => ?_, fun h => ?_⟩
     ·have := hO.lt g h; omega
     ·have := BA.low w g hO.ok h; omega
    ·cases h2
  ·intro u row l h1 h2
   simp only at h2
   split at h2
   ·cases h2; exact hg
   ·cases h2
  ·have := D8.slr (w := w') (O := Av O (fun u => if u = t then some ⟨g, 0, cap * sz⟩ else none) (AX [(t, ⟨sz, true, xs⟩)])) (μ := fun u => if u = t then some ⟨g, 0, cap * sz⟩ else none) (R := AX [(t, ⟨sz, true, xs⟩)]) t 0 xs.length cap ⟨sz, true, xs⟩ ⟨g, 0, cap * sz⟩ hRt (by simp) (by simp) hn (by simp)
   simpa using this
end Go.Vd
end
section
namespace Go.Proofs
open Go.Shelf Go.RowKit Go.Lib
variable {P : Program} {ρ : Ren}
set_option maxHeartbeats 2000000 in
set_option maxRecDepth 100000 in
theorem nX (L : SlLaysE0.n41 P ρ) (i0 : TypeInfo) (z : Value) (size bytes : Nat) (hi : P.info? (ρ.t 23) = some i0) (hz0 : i0.zero = some z) (hz1 : i0.size = size) (hz2 : i0.bytes = bytes) (hzs : z.cells.size = size) (hsz : 0 < size)
  (z23 : ∀ w, (Go.sizeOf (ρ.t 23)).run P w = .ok size w) (a : Addr) (c : Nat) (w : World) :
  Calls P (ρ.f 41) #[.slice (some a) 0 c] w fun e w' => ∃ v', e = .returned v' ∧ w'.ownsRow w.heap.size (ρ.t 23) size v' 0 [] ∧ v' ≠ .slice none 0 0 ∧ Below w.heap.size w w' := by
 have mixed := L.mixed; have t4 := L.t4; have a4 := L.a4; have z4 := L.z4; have v4 := L.v4; have t22 := L.t22; have a22 := L.a22; have z22 := L.z22; have v22 := L.v22
 have q22 : ∀ (w : World) (a : Option Addr) (n c n' c' : Nat), (binOp .eql (ρ.t 22) (.slice a n c) (.slice none n' c')).run P w = .ok (.bool a.isNone) w := fun w a n c n' c' => Lib.run_eql_slice_nil w _ _ a n c n' c' L.t22
 have u22 : ∀ w, Sem.run P (underlying (ρ.t 22)) w = .ok (TypeDesc.slice (ρ.t 23)) w := run_underlying t22
 obtain ⟨_, _, FG⟩ := L.f41
 go_enter FG, SlBodyN.n41_ntmps ρ
 go_wp2_with (at_builtin; refine wpList_append_own _ rfl _ _ (ρ.t 22) rfl w.heap.size (ρ.t 23) i0 z size bytes t22 hi hz0 hz1 hz2 hzs hsz _ _ _ rfl (World.ownsRow_made w #[] 0 (Nat.le_refl _) (Nat.zero_le _) (by simp)) a 0 c [] rfl ?qc1 ?qc2 ?qc3 ?qc4 ?qc5 ?qc6 ?_)
 case qc1 => simp
 case qc2 =>
  intro j u hj
  simp at hj
 case qc3 => intro u hu; cases hu
 case qc4 => simp
 case qc5 => simp
 case qc6 => simp
 intro v' w1 hown hgrow hnil
 go_wp2
 go_ret
 refine ⟨v', rfl, by simpa using hown, ?_, ?_⟩
 ·exact hnil
 ·exact ((Below.refl _ w).alloc (Nat.le_refl _) _).grown hgrow (by simp) (by intro k hk; simp [Value.ownBlock] at hk; omega)
end Go.Proofs
end
section
set_option linter.unusedVariables false
set_option linter.unusedSimpArgs false
namespace Go.Vd
open Go.RowKit Go.Shelf Go.Lib Go.Proofs
theorem YF [BA] {P : Program} {ρ : Ren} (L : SlLaysE0.n41 P ρ) (i0 : TypeInfo) (z : Value) (size bytes : Nat) (hi : P.info? (ρ.t 23) = some i0) (hz0 : i0.zero = some z) (hz1 : i0.size = size) (hz2 : i0.bytes = bytes) (hzs : z.cells.size = size) (hsz : 0 < size)
  (z23 : ∀ w, (Go.sizeOf (ρ.t 23)).run P w = .ok size w) {t : Nat} (hty : IP t = none) {xs : List PV} (hle : xs.length ≤ maxLen) (hbig : xs.length * bytes ≤ 140737488355328) :
  Sat P (ρ.f 41) AC [.sl size xs] (.slr t 0 xs.length) (AX [(t, ⟨size, true, xs⟩)]) := by
 intro O μ w vs hO hin hargs
 obtain ⟨v, rfl⟩ : ∃ v, vs = [v] := by
  have hl := hargs.len
  match vs, hl with
  | [v], _ => exact ⟨v, rfl⟩
  | [], hl => simp at hl
  | _ :: _ :: _, hl => simp at hl
 have hr := hargs.rel 0 (.sl size xs) v rfl rfl
 have hA : ∀ b, Av O μ AC b → O b := by
  rintro b (h | ⟨u, r, l, h1, _⟩)
  ·exact h
  ·cases h1
 have fin : ∀ {e : Ending} {w' : World} {v' : Value} {te : TypeId} {news : List Value}, (∀ x ∈ xs, x.cells.length = size ∧ ∀ p ∈ x.cells, p.one = true) →
   (∀ (i : Nat) (x : PV) (j : Nat) (p : PV), xs[i]? = some x → x.cells[j]? = some p → ∃ v, news[i * size + j]? = some v ∧ DZ w O p v) → e = .returned v' → w'.ownsRow w.heap.size te size v' xs.length news → Below w.heap.size w w' →
   ∃ v μ', e = .returned v ∧ Fr (OM μ AC) w w' ∧ U9 w' O μ' (AX [(t, ⟨size, true, xs⟩)]) ∧
   (∀ t' row, AC t' = some row → μ' t' = μ t' ∧ ∃ row', AX [(t, (⟨size, true, xs⟩ : Row))] t' = some row' ∧ row'.sz = row.sz ∧ row'.cs.length = row.cs.length) ∧
   (∀ t' row l, AX [(t, (⟨size, true, xs⟩ : Row))] t' = some row → AC t' = none → μ' t' = some l → w.heap.size ≤ l.b) ∧ D8 w' (Av O μ' (AX [(t, ⟨size, true, xs⟩)])) μ' (AX [(t, ⟨size, true, xs⟩)]) (.slr t 0 xs.length) v := by
  intro e w' v' te news hel hnew he hown hb
  obtain ⟨μ', h1, h2, h3, h4⟩ := uU (μ := μ) hO hsz hty hel hnew hown hb
  exact ⟨v', μ', he, h1, h2, fun t' row h => (by cases h), fun t' row l h _ => h3 t' row l h, h4⟩
 cases hr with
 | base _ _ h =>
  cases h with
  | sl0 _ A c =>
   cases A with
   | none =>
    refine (AnyE.slices_Clone_nil L 0 c w).mono ?_
    rintro e w' ⟨rfl, rfl⟩
    exact fin (news := []) (te := 0) (fun x hx => (by cases hx)) (fun i x j p hi => (by simp at hi)) rfl ⟨by simp, .inl ⟨rfl, rfl⟩⟩ (.refl _ _)
   | some a =>
    refine (nX L i0 z size bytes hi hz0 hz1 hz2 hzs hsz z23 a c w).mono ?_
    rintro e w' ⟨v', he, hown, _, hb⟩
    exact fin (fun x hx => (by cases hx)) (fun i x j p hi => (by simp at hi)) he hown hb
  | sl _ _ b o c V ho hx hc hz hs h1 h2 =>
   have hm : ∀ m, m < xs.length * size → ∃ x p, xs[m / size]? = some x ∧ x.cells[m % size]? = some p := by
    intro m hm
    have hi : m / size < xs.length := Nat.div_lt_of_lt_mul (by rw [Nat.mul_comm]; exact hm)
    have hx2 := hs _ (List.getElem_mem hi)
    have hj : m % size < (xs[m / size]).cells.length := by rw [hx2.1]; exact Nat.mod_lt _ hsz
    exact ⟨xs[m / size], (xs[m / size]).cells[m % size], List.getElem?_eq_getElem hi, List.getElem?_eq_getElem hj⟩
   have hget : ∀ m u, ((List.range (xs.length * size)).map fun m => V (m / size) (m % size))[m]? = some u → m < xs.length * size ∧ u = V (m / size) (m % size) := by
    intro m u h
    rw [List.getElem?_map] at h
    by_cases hlt : m < xs.length * size
    ·rw [List.getElem?_range hlt] at h
     exact ⟨hlt, by simpa using h.symm⟩
    ·rw [List.getElem?_eq_none (by simpa using hlt)] at h
     cases h
   refine (AnyE.slices_Clone L i0 z size bytes hi hz0 hz1 hz2 hzs hsz z23 b o xs.length c ((List.range (xs.length * size)).map fun m => V (m / size) (m % size)) w (by simp) hle hbig (fun m u hu => ?_) (fun u hu => ?_)).mono ?_
   ·obtain ⟨hlt, rfl⟩ := hget m u hu
    obtain ⟨x, p, hx1, hp⟩ := hm m hlt
    have := h1 _ _ _ _ hx1 hp
    rwa [show m / size * size + m % size = m from by rw [Nat.mul_comm]; exact Nat.div_add_mod m size] at this
   ·obtain ⟨m, hu⟩ := List.getElem?_of_mem hu
    obtain ⟨hlt, rfl⟩ := hget m u hu
    obtain ⟨x, p, hx1, hp⟩ := hm m hlt
    exact (h2 _ _ _ _ hx1 hp).oneCell ((hs x (List.mem_of_getElem? hx1)).2 p (List.mem_of_getElem? hp))
   ·rintro e w' ⟨v', he, hown, _, hb⟩
    refine fin hs (fun i x j p hi2 hj2 => ?_) he hown hb
    have hil := (List.getElem?_eq_some_iff.1 hi2).1
    have hjl : j < size := by
     have := (List.getElem?_eq_some_iff.1 hj2).1
     rw [(hs x (List.mem_of_getElem? hi2)).1] at this
     exact this
    have hlt : i * size + j < xs.length * size := by
     have : (i + 1) * size ≤ xs.length * size := Nat.mul_le_mul_right _ hil
     rw [Nat.add_mul] at this
     omega
    refine ⟨V i j, ?_, (h2 i x j p hi2 hj2).frame (fun b _ _ => rfl) (fun b _ h => .inl h)⟩
    rw [List.getElem?_map, List.getElem?_range hlt, Option.map_some]
    have e1 : (i * size + j) / size = i := by rw [Nat.mul_comm, Nat.mul_add_div hsz, Nat.div_eq_of_lt hjl, Nat.add_zero]
    have e2 : (i * size + j) % size = j := by rw [Nat.mul_comm, Nat.mul_add_mod, Nat.mod_eq_of_lt hjl]
    rw [e1, e2]
end Go.Vd
end
section
set_option linter.unusedVariables false
set_option linter.unusedSimpArgs false
namespace Go.Vd
open Go.RowKit
section
variable {P : Program} {T : Nat → Bool}
theorem vB [BA] (mo : List (Nat × Row)) {f : FuncId} {xs : List DD} {s : EY} {r : Rows} {ps qs : List PV} {res : PV} (hs : Sat P f AC qs res (AX mo)) (h : evs s xs = some ps) (hq : ZU r ps qs) (hfr : ps.all PV.free = true)
  (ht : res.tk (fun t => (AX mo t).isSome) = true) (hr : IK (fun t => (AX mo t).isSome) (mo.map (·.2)) = true) (htk : PV.tks (fun t => (r t).isSome) ps = true) : PP P (.call f xs) s r res (AX mo) :=
 .call ps res _ h (.inl fun p hp => List.all_eq_true.1 hfr p hp) (hs.subs hq.subs) ht (fun t row h => JY hr row (NW h)) (fun p hp => PV.tks_mem htk p hp)
theorem pK [BA] (mo : List (Nat × Row)) {d : Option Nat} {f : FuncId} {xs : List DD} {st : St} {ps qs : List PV} {res : PV} (hs : Sat P f AC qs res (AX mo)) (h : evs st.s xs = some ps) (hq : ZU st.r ps qs) (hfr : ps.all PV.free = true)
  (ht : res.tk (fun t => (AX mo t).isSome) = true) (hr : IK (fun t => (AX mo t).isSome) (mo.map (·.2)) = true) (htk : PV.tks (fun t => (st.r t).isSome) ps = true) (hf : UO st.r AC mo = true) : XZ P T (.call f xs) d st (St.put ⟨st.s, N7 (AX mo) st.r⟩ d res) :=
 .pur res _ (vB mo hs h hq hfr ht hr htk) fun t row h => QV hf t row h rfl
end
end Go.Vd
namespace Go.Gp
open Go.Vd
def L8 {α : Type} (bytes : Nat) (l : List α) : Option (List α) := if l.length ≤ maxLen ∧ l.length * bytes ≤ 140737488355328 then some l else none
theorem WQ {α : Type} {b : Nat} {l r : List α} (h : L8 b l = some r) : r = l ∧ l.length ≤ maxLen ∧ l.length * b ≤ 140737488355328 := by
 unfold L8 at h
 split at h
 ·rename_i hc; cases h; exact ⟨rfl, hc⟩
 ·cases h
end Go.Gp
end
