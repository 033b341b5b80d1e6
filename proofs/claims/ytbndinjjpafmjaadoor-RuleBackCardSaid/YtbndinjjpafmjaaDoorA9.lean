/- A part of the proof: a logic of values, rows and steps. -/
import Derived.Test.YtbndinjjpafmjaaDoorA4
import Derived.Shelf.Strings.Builder1
section
set_option linter.unusedVariables false
set_option linter.unusedSimpArgs false
namespace Go.Vd
open Go.RowKit Go.Shelf Go.Proofs
section
variable {w : World} {O : Nat → Prop} {μ : Mu} {R : Vd.Rows}
theorem bld_open {t k : Nat} {A B : PV} (h : RowRel w O μ R t ⟨2, false, [.agg [A, B]]⟩) (hk : tyOf t = some k) :
    ∃ l v0 v1, μ t = some l ∧ l.base = 0 ∧ w.heap[l.b]? = some (.cells #[v0, v1] k (0, 0)) ∧ l.room = 2 ∧ Rel w O μ R A v0 ∧ Rel w O μ R B v1 := by
  cases hl : μ t with
  | none => have := h.non hl; cases this
  | some l =>
    obtain ⟨h1, arr, fz, h2, h3⟩ := h.ty k hk l hl
    obtain ⟨rfl, h4⟩ := h3 rfl
    obtain ⟨arr', ety, fz', g1, g2, g3, g4, g5⟩ := h.lie l hl
    rw [h2] at g1
    cases g1
    obtain ⟨v0, e0, r0⟩ := g5 0 (.agg [A, B]) 0 A rfl rfl
    obtain ⟨v1, e1, r1⟩ := g5 0 (.agg [A, B]) 1 B rfl rfl
    have hs : arr.size = 2 := h4
    have harr : arr = #[v0, v1] := by
      apply Array.ext (by simp [hs])
      intro i hi hi2
      simp [h1] at e0 e1
      match i, hi with
      | 0, _ => have := (Array.getElem?_eq_some_iff.1 e0).2; simpa using this
      | 1, _ => have := (Array.getElem?_eq_some_iff.1 e1).2; simpa using this
      | i + 2, hi => omega
    subst harr
    have hroom : l.room = 2 := by
      simp [h1] at g2 g3
      omega
    exact ⟨l, v0, v1, rfl, h1, h2, hroom, r0.rel, r1.rel⟩
theorem bld_close {t k : Nat} {A B : PV} {l : Loc} {v0 v1 : Value} (hl : μ t = some l) (hk : tyOf t = some k) (hA : A.one = true) (hB : B.one = true) (h1 : l.base = 0) (h2 : w.heap[l.b]? = some (.cells #[v0, v1] k (0, 0))) (h3 : l.room = 2) (h4 : Rel w O μ R A v0) (h5 : Rel w O μ R B v1) : RowRel w O μ R t ⟨2, false, [.agg [A, B]]⟩ := by
  refine ⟨by show 0 < 2; omega, fun x hx => ?_, fun hn => (by rw [hl] at hn; cases hn), fun l' hl' => ?_, fun k' hk' l' hl' => ?_⟩
  · have hx' : x = .agg [A, B] := by
      have : x ∈ [PV.agg [A, B]] := hx
      simpa using this
    subst hx'
    refine ⟨rfl, fun p hp => ?_⟩
    have hp' : p ∈ [A, B] := hp
    simp only [List.mem_cons, List.not_mem_nil, or_false] at hp'
    rcases hp' with rfl | rfl
    · exact hA
    · exact hB
  · rw [hl] at hl'
    cases hl'
    refine ⟨#[v0, v1], k, (0, 0), h2, by simp [h1, h3], by show 1 * 2 ≤ l.room; omega, fun j _ _ hj => by simp at hj, fun i x j p hi hj => ?_⟩
    cases i with
    | succ i => simp at hi
    | zero =>
      simp at hi
      subst hi
      show ∃ v, #[v0, v1][l.base + (0 * 2 + j)]? = some v ∧ CellRel w O μ R false p v
      match j with
      | 0 => simp [PV.cells] at hj; subst hj; exact ⟨v0, by simp [h1], by unfold CellRel; rw [if_neg (by simp)]; exact h4⟩
      | 1 => simp [PV.cells] at hj; subst hj; exact ⟨v1, by simp [h1], by unfold CellRel; rw [if_neg (by simp)]; exact h5⟩
      | j + 2 => simp [PV.cells] at hj
  · rw [hl] at hl'
    cases hl'
    rw [hk] at hk'
    cases hk'
    exact ⟨h1, _, _, h2, fun _ => ⟨rfl, rfl⟩⟩
end
def bNew : Row := ⟨2, false, [.agg [.nilp, .nl]]⟩
def bAdr (t : Nat) : Row := ⟨2, false, [.agg [.ptr t 0 0, .nl]]⟩
def bUse (t tb n : Nat) : Row := ⟨2, false, [.agg [.ptr t 0 0, .slr tb 0 n]]⟩
section
variable {P : Program} {ρ : Ren}
theorem ptr_inv {w : World} {O : Nat → Prop} {μ : Mu} {R : Vd.Rows} {t k : Nat} {row : Row} {v : Value} {l : Loc} (h : Rel w O μ R (.ptr t 0 0) v) (hl : μ t = some l) (hb : l.base = 0) : v = .pointer (some ⟨l.b, 0, none⟩) := by
  cases h with
  | base _ _ h => cases h
  | ptr _ _ _ row' l' hr hm hi ho =>
    rw [hl] at hm
    cases hm
    simp [hb]
theorem bld_check_new [Glob] (L : Lays.n240 P ρ) (X : Builder.X72 P ρ) (t : Nat) (ht : tyOf t = some (ρ.t 72)) : Sat P (ρ.f 240) (ofL [(t, bNew)]) [.ptr t 0 0] (.tup []) (ofL [(t, bAdr t)]) := by
  intro O μ w vs hO hin hargs
  have hr : ofL [(t, bNew)] t = some bNew := by simp [ofL, Nat.beq_refl]
  obtain ⟨l, v0, v1, hl, hb, hh, hroom, r0, r1⟩ := bld_open (hin.row t bNew hr) ht
  have hv : vs = [.pointer (some ⟨l.b, 0, none⟩)] := by
    have hlen := hargs.len
    match vs, hlen with
    | [v], _ => rw [ptr_inv (k := 0) (row := bNew) (hargs.rel 0 _ v rfl rfl) hl hb]
  subst hv
  have e0 : v0 = .pointer none := by cases r0 with | base _ _ h => cases h; rfl
  have e1 : v1 = .slice none 0 0 := by cases r1 with | base _ _ h => cases h; rfl
  subst e0 e1
  have hlt : l.b < w.heap.size := by
    rcases Nat.lt_or_ge l.b w.heap.size with h' | h'
    · exact h'
    · rw [Array.getElem?_eq_none h'] at hh; cases hh
  refine (Any.Builder_copyCheck_fresh L X l.b w (by simp [World.cell?, hh]) (by simp [World.shape?, hh]) (by simp [World.frozen?, hh])).mono ?_
  rintro e w' ⟨rfl, rfl⟩
  have hh' : (w.setCell ⟨l.b, 0, none⟩ (.pointer (some ⟨l.b, 0, none⟩))).heap[l.b]? = some (.cells #[.pointer (some ⟨l.b, 0, none⟩), .slice none 0 0] (ρ.t 72) (0, 0)) := by
    have := heap_setCell_same w l.b 0 #[.pointer none, .slice none 0 0] (ρ.t 72) (.pointer (some ⟨l.b, 0, none⟩)) hh
    simpa using this
  have hr' : ofL [(t, bAdr t)] t = some (bAdr t) := by simp [ofL, Nat.beq_refl]
  have hone : ∀ u row, ofL [(t, bAdr t)] u = some row → u = t ∧ row = bAdr t := by
    intro u row hu
    unfold ofL at hu
    cases hc : Nat.beq u t with
    | true => rw [hc] at hu; cases hu; exact ⟨Nat.eq_of_beq_eq_true hc, rfl⟩
    | false => rw [hc] at hu; cases hu
  refine ⟨.tuple #[], μ, rfl, ⟨rfl, rfl, rfl, by simp [World.setCell], fun b hb2 hn => Below.heap_setCell _ _ _ _ fun e => hn ⟨t, bNew, l, hr, hl, e.symm⟩⟩, ⟨fun u row hu => ?_, fun u u' row row' l' l'' h1 h2 _ _ _ => ?_, fun u row l' h1 h2 => ?_⟩, fun u row hu => ?_, fun u row l' h1 h2 => ?_, .base _ _ (.tup [] [] rfl fun j p v hj => by simp at hj)⟩
  · obtain ⟨rfl, rfl⟩ := hone u row hu
    refine bld_close hl ht rfl rfl hb hh' hroom ?_ (.base _ _ .nl)
    have := Rel.ptr (w := w.setCell ⟨l.b, 0, none⟩ (.pointer (some ⟨l.b, 0, none⟩))) (O := Av O μ (ofL [(u, bAdr u)])) (μ := μ) (R := ofL [(u, bAdr u)]) u 0 0 (bAdr u) l hr' hl (by show 0 < 1; omega) (by show 0 < 2; omega)
    simpa [hb] using this
  · rw [(hone u row h1).1, (hone u' row' h2).1]
  · obtain ⟨rfl, rfl⟩ := hone u row h1
    exact hin.own u bNew l' hr h2
  · have hu0 : u = t ∧ row = bNew := by
      unfold ofL at hu
      cases hc : Nat.beq u t with
      | true => rw [hc] at hu; cases hu; exact ⟨Nat.eq_of_beq_eq_true hc, rfl⟩
      | false => rw [hc] at hu; cases hu
    obtain ⟨rfl, rfl⟩ := hu0
    exact ⟨rfl, bAdr u, hr', rfl, rfl⟩
  · obtain ⟨rfl, rfl⟩ := hone u row h1
    rw [hr] at h2
    cases h2
theorem bld_check_used [Glob] (L : Lays.n240 P ρ) (X : Builder.X72 P ρ) (t : Nat) (ht : tyOf t = some (ρ.t 72)) (B : PV) (R : Vd.Rows) (hr : R t = some ⟨2, false, [.agg [.ptr t 0 0, B]]⟩) : Sat P (ρ.f 240) R [.ptr t 0 0] (.tup []) R := by
  intro O μ w vs hO hin hargs
  obtain ⟨l, v0, v1, hl, hb, hh, hroom, r0, r1⟩ := bld_open (hin.row t _ hr) ht
  have hv : vs = [.pointer (some ⟨l.b, 0, none⟩)] := by
    have hlen := hargs.len
    match vs, hlen with
    | [v], _ => rw [ptr_inv (k := 0) (row := bNew) (hargs.rel 0 _ v rfl rfl) hl hb]
  subst hv
  have e0 : v0 = .pointer (some ⟨l.b, 0, none⟩) := ptr_inv (k := 0) (row := bNew) r0 hl hb
  subst e0
  refine (Any.Builder_copyCheck_used L X l.b w (by simp [World.cell?, hh])).mono ?_
  rintro e w' ⟨rfl, rfl⟩
  exact ⟨.tuple #[], μ, rfl, .refl _ _, hin, fun u row hu => ⟨rfl, row, hu, rfl, rfl⟩, fun u row l' (h1 : R u = some row) (h2 : R u = none) _ => (by rw [h1] at h2; cases h2), .base _ _ (.tup [] [] rfl fun j p v hj => by simp at hj)⟩
theorem bld_str_new [Glob] (L : Lays.n169 P ρ) (X : Builder.Extra P ρ) (t : Nat) (ht : tyOf t = some (ρ.t 72)) : SatC P (ρ.f 169) (ofL [(t, bNew)]) [.ptr t 0 0] (.str []) noRows := by
  intro O μ w vs hO hin hargs
  have hr : ofL [(t, bNew)] t = some bNew := by simp [ofL, Nat.beq_refl]
  obtain ⟨l, v0, v1, hl, hb, hh, hroom, r0, r1⟩ := bld_open (hin.row t bNew hr) ht
  have hv : vs = [.pointer (some ⟨l.b, 0, none⟩)] := by
    have hlen := hargs.len
    match vs, hlen with
    | [v], _ => rw [ptr_inv (k := 0) (row := bNew) (hargs.rel 0 _ v rfl rfl) hl hb]
  subst hv
  have e1 : v1 = .slice none 0 0 := by cases r1 with | base _ _ h => cases h; rfl
  subst e1
  refine (Any.Builder_String_nil L X w.heap.size l.b v0 w hh).mono ?_
  rintro e w' ⟨rfl, hw⟩
  exact ⟨_, μ, rfl, ⟨hw.os, hw.tape, hw.output, hw.size, fun b hb2 _ => hw.block b hb2⟩, ⟨fun u row hu => by simp [noRows] at hu, fun u u' row row' l' l'' hu => by simp [noRows] at hu, fun u row l' hu => by simp [noRows] at hu⟩,
    fun u row row' _ hu => by simp [noRows] at hu, fun u row l' hu => by simp [noRows] at hu, .base _ _ (.str [])⟩
set_option maxHeartbeats 1000000 in
set_option maxRecDepth 100000 in
theorem bld_str_run (L : Lays.n169 P ρ) (X : Builder.Extra P ρ) (b g cap : Nat) (p : Value) (arr : Array Value) (fz : Nat × Nat) (l : List UInt8) (w : World) (hbk : w.heap[b]? = some (.cells #[p, .slice (some ⟨g, 0, none⟩) l.length cap] (ρ.t 72) (0, 0)))
    (hg : w.heap[g]? = some (.cells arr (ρ.t 5) fz)) (h0 : l ≠ []) (hc : l.length ≤ cap) (hs : cap ≤ arr.size) (hm : l.length ≤ 9223372036854775807) (hcells : ∀ (j : Nat) (x : UInt8), l[j]? = some x → arr[j]? = some (.int .u8 (x.toNat : Int))) :
    Calls P (ρ.f 169) #[.pointer (some ⟨b, 0, none⟩)] w fun e w' => e = .returned (.string ⟨l.toArray⟩) ∧ w' = w.drew.freeze ⟨g, 0, none⟩ l.length := by
  have hl0 : l.length ≠ 0 := by simpa using h0
  have c1 : w.drew.cell? ⟨b, 1, none⟩ = some (.slice (some ⟨g, 0, none⟩) l.length cap) := by
    have : w.drew.heap[b]? = some (.cells #[p, .slice (some ⟨g, 0, none⟩) l.length cap] (ρ.t 72) (0, 0)) := hbk
    rw [Lib.cell_of_heap this]; rfl
  have hSD : (Builtin.unsafeSliceData_ #[(ρ.t 37)] (ρ.t 127) #[.slice (some ⟨g, 0, none⟩) l.length cap]).run P w.drew = .ok (.pointer (some ⟨g, 0, none⟩)) w.drew :=
    Lib.run_unsafeSliceData_row _ _ _ _ _ _ (by omega)
  have hUS : (Builtin.unsafeString_ #[(ρ.t 127), (ρ.t 3)] (ρ.t 9) #[.pointer (some ⟨g, 0, none⟩), .int .i64 l.length]).run P w.drew = .ok (.string ⟨l.toArray⟩) (w.drew.freeze ⟨g, 0, none⟩ l.length) := by
    refine Lib.run_unsafeString_row w.drew (ρ.t 127) (ρ.t 3) (ρ.t 9) (ρ.t 5) L.t127 X.cellsByte g arr.size (by have hg' : w.drew.heap[g]? = some (.cells arr (ρ.t 5) fz) := hg; simp [World.shape?, hg']) l h0 (by omega) hm ?_
    intro j x hx
    have hg' : w.drew.heap[g]? = some (.cells arr (ρ.t 5) fz) := hg
    have hc := hcells j x hx
    by_cases hj : j = 0
    · subst hj; simpa [World.cell?, Addr.add, hg'] using hc
    · simpa [World.cell?, Addr.add, hg', hj] using hc
  have mixed := L.mixed
  have t72 := L.t72; have a72 := L.a72; have z72 := L.z72; have v72 := L.v72; have u72 := run_underlying L.t72
  have t70 := L.t70; have a70 := L.a70; have z70 := L.z70; have v70 := L.v70; have u70 := run_underlying L.t70
  have t37 := L.t37; have a37 := L.a37; have z37 := L.z37; have v37 := L.v37; have u37 := run_underlying L.t37
  have t127 := L.t127; have a127 := L.a127; have z127 := L.z127; have v127 := L.v127; have u127 := run_underlying L.t127
  have t3 := L.t3; have a3 := L.a3; have z3 := L.z3; have v3 := L.v3; have u3 := run_underlying L.t3
  have t9 := L.t9; have a9 := L.a9; have z9 := L.z9; have v9 := L.v9; have u9 := run_underlying L.t9
  have t5 := X.t5; have a5 := X.a5; have z5 := X.z5; have v5 := X.v5; have u5 := run_underlying X.t5
  clear hcells
  go_enter L.f169, Body.n169_ntmps ρ
  go_wp2
  go_region_o
  all_goals (go_wp2; go_ret; exact ⟨rfl, rfl⟩)
theorem bld_str [Glob] (L : Lays.n169 P ρ) (X : Builder.Extra P ρ) (t tb : Nat) (ht : tyOf t = some (ρ.t 72)) (htb : tyOf tb = some (ρ.t 5)) (l : List UInt8) (h0 : l ≠ []) (hm : l.length ≤ 9223372036854775807) : SatC P (ρ.f 169) (ofL [(t, bUse t tb l.length), (tb, ⟨1, true, l.map eb⟩)]) [.ptr t 0 0] (.str l) noRows := by
  intro O μ w vs hO hin hargs
  have hne : tb ≠ t := by
    intro e
    subst e
    rw [ht] at htb
    have h1 := Option.some.inj htb
    exact X.neB5 h1
  have hr : ofL [(t, bUse t tb l.length), (tb, ⟨1, true, l.map eb⟩)] t = some (bUse t tb l.length) := by simp [ofL, Nat.beq_refl]
  have hrb : ofL [(t, bUse t tb l.length), (tb, ⟨1, true, l.map eb⟩)] tb = some ⟨1, true, l.map eb⟩ := by simp [ofL, Nat.beq_refl, beq_false hne]
  obtain ⟨k, v0, v1, hl, hb, hh, hroom, r0, r1⟩ := bld_open (hin.row t _ hr) ht
  have hv : vs = [.pointer (some ⟨k.b, 0, none⟩)] := by
    have hlen := hargs.len
    match vs, hlen with
    | [v], _ => rw [ptr_inv (k := 0) (row := bNew) (hargs.rel 0 _ v rfl rfl) hl hb]
  subst hv
  have hlen : l.length ≠ 0 := by simpa using h0
  generalize hgn : l.length = n at r1 hlen
  cases r1 with
  | base _ _ h => cases h
  | slr0 => exact absurd rfl hlen
  | slr _ _ _ cap row kb hr' hmb hn hc hroomb =>
    subst hgn
    rw [hrb] at hr'
    cases hr'
    have hrow := hin.row tb _ hrb
    obtain ⟨b1, arr, fz, b2, _⟩ := hrow.ty _ htb kb hmb
    obtain ⟨arr', ety, fz', g1, g2, g3, g4, g5⟩ := hrow.lie kb hmb
    rw [b2] at g1
    cases g1
    have hh' : w.heap[k.b]? = some (.cells #[v0, .slice (some ⟨kb.b, 0, none⟩) l.length cap] (ρ.t 72) (0, 0)) := by
      rw [hh, b1]
      simp
    refine (bld_str_run L X k.b kb.b cap v0 arr fz l w hh' b2 h0 hc ?_ hm ?_).mono ?_
    · simp at hroomb
      omega
    · intro j x hj
      obtain ⟨v, hv, hcr⟩ := g5 j (eb x) 0 (eb x) (by show (l.map eb)[j]? = _; rw [List.getElem?_map, hj]; rfl) rfl
      have : v = .int .u8 (x.toNat : Int) := by
        unfold CellRel at hcr
        rw [if_pos rfl] at hcr
        cases hcr
        rfl
      rw [this] at hv
      simpa [b1] using hv
    · rintro e w' ⟨rfl, rfl⟩
      have hbf := Lib.below_freeze (Below.refl 0 w.drew) (p := ⟨kb.b, 0, none⟩) (Nat.zero_le _) l.length
      refine ⟨_, μ, rfl, ⟨hbf.os, hbf.tape, hbf.output, ?_, fun b hb2 hn => ?_⟩, ⟨fun u row hu => by simp [noRows] at hu, fun u u' row row' l' l'' hu => by simp [noRows] at hu, fun u row l' hu => by simp [noRows] at hu⟩,
        fun u row row' _ hu => by simp [noRows] at hu, fun u row l' hu => by simp [noRows] at hu, .base _ _ (.str l)⟩
      · exact hbf.size
      · have hbne : b ≠ kb.b := fun e => hn ⟨tb, _, kb, hrb, hmb, e.symm⟩
        unfold World.freeze
        split
        · rfl
        · show (w.heap.modify kb.b _)[b]? = w.heap[b]?
          rw [Array.getElem?_modify, if_neg (Ne.symm hbne)]
end
end Go.Vd
end
