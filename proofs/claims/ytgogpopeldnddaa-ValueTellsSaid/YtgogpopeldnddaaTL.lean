import Derived.Test.YtgogpopeldnddaaTK
set_option linter.unusedVariables false
set_option linter.unusedSimpArgs false
namespace Go.Proofs.TR1
open Go.Vd Go.RowKit

theorem base_row {R : Vd.Rows} {sz t lo n : Nat} {row : Row} {xs : List PV} (hr : R t = some row) (hp : row.pr = true) (hs : Nat.beq row.sz sz = true) (hn : lo + n = row.cs.length) (h : row.cs.drop lo = xs) : basev R sz (.slr t lo n) = some (some t, xs) := by
  simp only [basev, hr]
  rw [if_pos ⟨Nat.eq_of_beq_eq_true hs, hp, hn⟩, h]
theorem obeq {P : Program} {T : Nat → Bool} {d : Option Nat} {st : St} {ne : Bool} {x y : Opd} {p q v : PV} (hx : x.ev st.s = some p) (hy : y.ev st.s = some q) (h : beqv ne p q = some v) : OpS P T (.beq ne x y) d st (st.put d v) :=
  opop (by simp only [pop, hx, hy, opt2, h])
theorem same1 (tag : Int) (s : List UInt8) : Sat Try.prog 15 noRows [.agg [.int .u8 tag, .str s, .nl], .agg [.int .u8 tag, .str s, .nl]] (.bool true) noRows := by
  have h := sat15 tag tag s s
  have e : (!(tag != tag || !(s == s))) = true := by simp
  rw [e] at h
  exact h

def base5 (n : Int) (s : List UInt8) (b : Bool) (tag : Int) (l : List (List UInt8)) (v : Int) (ok f g : Bool) : List (Nat × PV) :=
  [(0, .int .i64 n), (1, .str s), (2, .bool b), (3, .int .u8 tag), (4, .sl 1 (strs l)), (11, .int .i64 v), (12, .bool ok), (13, .int .i64 v), (14, .bool ok), (15, .bool f), (16, .bool g)]
def S5 (n : Int) (s : List UInt8) (b : Bool) (tag : Int) (l : List (List UInt8)) (v : Int) (ok f g : Bool) (i : Nat) : St :=
  ⟨ofL ((17, .slr 17 0 i) :: (18, .int .i64 (i : Int)) :: base5 n s b tag l v ok f g), ofL [(17, ⟨3, true, (l.take i).map txt⟩)]⟩

theorem loop5 (n : Int) (s : List UInt8) (b : Bool) (tag : Int) (l : List (List UInt8)) (v : Int) (ok f g : Bool) (Q : Xt → St → Prop) : ∀ (m i : Nat), l.length = i + m → l.length ≤ 1000 →
    (∀ st, Norm (fun _ => false) st ⟨ofL ((17, .sl 3 (l.map txt)) :: base5 n s b tag l v ok f g), noRows⟩ → Q (.exit 0) st) →
    ∃ e st', Ex Try.prog (fun _ => false) (.loop l5_0.un) (S5 n s b tag l v ok f g i) e st' ∧ Q e st' := by
  intro m
  induction m with
  | zero =>
    intro i hi hs hQ
    refine loop_round ?_
    refine wo (opop rfl) <| wo (opop rfl) <| wo (opop rfl) <| wo (opop rfl) ?_
    refine wcond rfl (fun c => absurd (of_decide_eq_true c) (by simp [strs]; omega)) (fun c => ?_)
    have ht : l.take i = l := List.take_of_length_le (by omega)
    refine hQ _ (canonF0 (m := []) 17 ⟨3, true, (l.take i).map txt⟩ rfl rfl ⟨?_, rfl, rfl, rfl, rfl, rfl, rfl, rfl, rfl, rfl, rfl, rfl, trivial⟩ trivial rfl rfl)
    show some (PV.sl 3 ((((l.take i).map txt).drop 0).take i)) = _
    rw [take_all (by rw [ht, List.length_map]; omega), ht]
  | succ m ih =>
    intro i hi hs hQ
    have hlt : i < l.length := by omega
    have hget : l[i]? = some (l[i]'hlt) := List.getElem?_eq_getElem hlt
    generalize hb : l[i]'hlt = c at hget
    have hg : (strs l)[i]? = some (.str c) := by rw [strs, List.getElem?_map, hget]; rfl
    have hlen : ((l.take i).map txt).length = i := by rw [List.length_map, List.length_take]; omega
    have hnext : (l.take i).map txt ++ [txt c] = (l.take (i + 1)).map txt := by
      rw [List.take_add_one, hget, List.map_append]
      rfl
    refine loop_round ?_
    refine wo (opop rfl) <| wo (opop rfl) <| wo (opop rfl) <| wo (opop rfl) ?_
    refine wcond rfl (fun c => ?_) (fun c => absurd (of_decide_eq_false c) (by simp [strs]; omega))
    refine wo (opop rfl) <| wo (opop rfl) <| wo (opop rfl) <| wo (oixs (i := i) rfl rfl rfl hg) <| wo (opop rfl) <| wo (ocall rfl rfl (sat11 4 _) rfl rfl rfl) <| wo (obsl 56 rfl rfl rfl) <|
      wo (oapp 57 rfl rfl (base_row rfl rfl rfl (by rw [hlen, Nat.zero_add]) rfl) rfl (fun _ _ => rfl) rfl (by rw [List.drop_zero, hlen]; simp; omega) rfl) ?_
    refine wn (canonR0 57 17 ((18, .int .i64 (i : Int)) :: (57, .slr 57 0 (i + 1)) :: base5 n s b tag l v ok f g) [(57, ⟨3, true, (l.take (i + 1)).map txt⟩)] (l' := (18, .int .i64 (i : Int)) :: (57, .slr 17 0 (i + 1)) :: base5 n s b tag l v ok f g) (m' := [(17, ⟨3, true, (l.take (i + 1)).map txt⟩)])
      ⟨rfl, vt (by rw [List.drop_zero, hlen]; rfl), rfl, rfl, rfl, rfl, rfl, rfl, rfl, rfl, rfl, rfl, rfl, trivial⟩ ⟨vr hnext, trivial⟩ rfl rfl rfl ⟨rfl, rfl, rfl, rfl, rfl, rfl, rfl, rfl, rfl, rfl, rfl, rfl, rfl, trivial⟩ ⟨rfl, trivial⟩ rfl rfl) ?_
    refine wo (opop rfl) <| wo (opop rfl) <| wo (obin rfl rfl (binv_add (c := ((i + 1 : Nat) : Int)) (by omega) (by omega) (by omega))) <| wo (opop rfl) ?_
    refine loop_norm (st1 := S5 n s b tag l v ok f g (i + 1)) (canon0 ⟨rfl, rfl, rfl, rfl, rfl, rfl, rfl, rfl, rfl, rfl, rfl, rfl, rfl, trivial⟩ ⟨rfl, trivial⟩ rfl rfl) ?_
    exact ih (i + 1) (by omega) hs hQ

theorem txts (l : List (List UInt8)) : PV.tks (fun _ => false) (l.map txt) = true := by
  induction l with
  | nil => rfl
  | cons x r ih => simp [PV.tks, ih, txt, PV.tk]

theorem sat5 (n : Int) (s : List UInt8) (b : Bool) (tag : Int) (l : List (List UInt8)) (h1 : -9223372036854775808 ≤ n) (h2 : n < 9223372036854775808) :
    Sat Try.prog 5 noRows [.int .i64 n, .str s, .bool b, .int .u8 tag, .sl 1 (strs l)] (.bool true) noRows := by
  refine sat_plain mixed Try.func5 c5 (rs := [_]) rfl rfl ?_
  have hll : (strs l).length = l.length := by simp [strs]
  by_cases hs : s.length ≤ 100
  · have e1 : decide ((s.length : Int) > 100) = false := decide_eq_false (by omega)
    by_cases hl : l.length ≤ 20
    · have e2 : decide (((strs l).length : Int) > 20) = false := decide_eq_false (by omega)
      obtain ⟨v, ok, h8, h9⟩ := both s (by omega)
      by_cases hone : s.length = 1
      · obtain ⟨x, rfl⟩ : ∃ x, s = [x] := List.length_eq_one_iff.1 hone
        have h10 := sat10_1 x
        refine wo (opop rfl) <| wo (ocall rfl rfl sat6 rfl rfl rfl) <| wo (opop rfl) ?_
        refine wcond rfl nofun (fun _ => ?_)
        refine wo (opop rfl) <| wo (opop rfl) <| wo (obin rfl rfl (binv_gt e1)) <| wo (opop rfl) <| wog rfl (opop rfl) <| wog rfl (opop rfl) <| wog rfl (obin rfl rfl (binv_gt e2)) <| wo (opop rfl) ?_
        refine wcond rfl nofun (fun _ => ?_)
        refine wo (opop rfl) <| wo (ocall rfl rfl h8 rfl rfl rfl) <| wo (opop rfl) <| wo (opop rfl) <| wo (opop rfl) <| wo (opop rfl) <| wo (opop rfl) <| wo (opop rfl) <| wo (ocall rfl rfl h9 rfl rfl rfl) <| wo (opop rfl) <| wo (opop rfl) <| wo (opop rfl) <| wo (opop rfl) <| wo (opop rfl) <| wo (opop rfl) ?_
        refine wo (ocall rfl rfl h10 rfl rfl rfl) <| wo (opop rfl) <| wo (opop rfl) <| wo (opop rfl) <| wo (opop rfl) <| wo (opop rfl) <| wo (opop rfl) <| wo (opop rfl) ?_
        refine loop_norm (st1 := S5 n [x] b tag l v ok ((x.toNat : Int) != 0) true 0) ((nlrow 17 17 3 true rfl rfl rfl).trans (canon0 ⟨rfl, rfl, rfl, rfl, rfl, rfl, rfl, rfl, rfl, rfl, rfl, rfl, rfl, trivial⟩ ⟨rfl, trivial⟩ rfl rfl)) ?_
        refine loop5 n _ b tag l v ok _ _ _ l.length 0 (by omega) (by omega) fun st hn => ?_
        refine wn hn <| wo (opop rfl) <| wo (ocall rfl rfl (sat7 n h1 h2) rfl rfl rfl) <| wo (opop rfl) <| wo (ocall rfl rfl (sat12 n h1 h2) rfl rfl rfl) <| wo (obin rfl rfl (binv_sself _)) <| wo (opop rfl) <| wog rfl (opop rfl) <| wog rfl (opop rfl) <| wog rfl (obin rfl rfl (binv_self _ _)) <| wo (opop rfl) ?_
        refine wo (opop rfl) <| wog rfl (opop rfl) <| wog rfl (opop rfl) <| wog rfl (obeq rfl rfl (beqv_self _)) <| wo (opop rfl) <| wo (opop rfl) <| wog rfl (opop rfl) <| wog rfl (ocall rfl rfl (sat13 b) rfl rfl rfl) <| wog rfl (opop rfl) <| wog rfl (ocall rfl rfl (sat14 b) rfl rfl rfl) <| wog rfl (obin rfl rfl (binv_sself _)) ?_
        refine wo (opop rfl) <| wo (opop rfl) <| wog rfl (opop rfl) <| wog rfl (opop rfl) <| wog rfl (opop rfl) <| wog rfl (opop rfl) <| wog rfl (opop rfl) <| wo (opop rfl) <| wo (opop rfl) <| wog rfl (opop rfl) <| wog rfl (opop rfl) <| wog rfl (opop rfl) <| wog rfl (opop rfl) <| wog rfl (opop rfl) ?_
        refine wog rfl (opop rfl) <| wog rfl (opop rfl) <| wog rfl (opop rfl) <| wog rfl (opop rfl) <| wog rfl (obeq rfl rfl (beqv_self _)) <| wo (opop rfl) <| wo (opop rfl) <| wog rfl (opop rfl) <| wog rfl (opop rfl) <| wog rfl (ocall rfl rfl (sat16 tag _) rfl rfl rfl) <| wog rfl (opop rfl) <| wog rfl (opop rfl) ?_
        refine wog rfl (ocall rfl rfl (sat11 tag _) rfl rfl rfl) <| wog rfl (ocall rfl rfl (same1 tag _) rfl rfl rfl) <| wo (opop rfl) <| wo (opop rfl) <| wog rfl (opop rfl) <| wog rfl (opop rfl) <| wog rfl (ocall rfl rfl (sat17 tag n h1 h2) rfl rfl rfl) <| wog rfl (opop rfl) <| wog rfl (opop rfl) ?_
        refine wog rfl (ocall rfl rfl (sat18 tag n h1 h2) rfl rfl rfl) <| wog rfl (ocall rfl rfl (same1 tag _) rfl rfl rfl) <| wo (opop rfl) <| wo (opop rfl) <| wog rfl (opop rfl) <| wog rfl (opop rfl) <| wog rfl (ocall rfl rfl (sat19 tag _ (txts l)) rfl rfl rfl) <| wog rfl (opop rfl) <| wog rfl (opop rfl) ?_
        refine wog rfl (ocall rfl rfl (sat20 tag _ (txts l)) rfl rfl rfl) <| wog rfl (ocall rfl rfl (sat15L tag l (by omega)) rfl rfl rfl) <| wo (opop rfl) <| wo (opop rfl) ?_
        exact ⟨nofun, rfl, rfl⟩
      · have e3 : ((s.length : Int) == 1) = false := by simpa using by omega
        have h10 := sat10_n s hone
        refine wo (opop rfl) <| wo (ocall rfl rfl sat6 rfl rfl rfl) <| wo (opop rfl) ?_
        refine wcond rfl nofun (fun _ => ?_)
        refine wo (opop rfl) <| wo (opop rfl) <| wo (obin rfl rfl (binv_gt e1)) <| wo (opop rfl) <| wog rfl (opop rfl) <| wog rfl (opop rfl) <| wog rfl (obin rfl rfl (binv_gt e2)) <| wo (opop rfl) ?_
        refine wcond rfl nofun (fun _ => ?_)
        refine wo (opop rfl) <| wo (ocall rfl rfl h8 rfl rfl rfl) <| wo (opop rfl) <| wo (opop rfl) <| wo (opop rfl) <| wo (opop rfl) <| wo (opop rfl) <| wo (opop rfl) <| wo (ocall rfl rfl h9 rfl rfl rfl) <| wo (opop rfl) <| wo (opop rfl) <| wo (opop rfl) <| wo (opop rfl) <| wo (opop rfl) <| wo (opop rfl) ?_
        refine wo (ocall rfl rfl h10 rfl rfl rfl) <| wo (opop rfl) <| wo (opop rfl) <| wo (opop rfl) <| wo (opop rfl) <| wo (opop rfl) <| wo (opop rfl) <| wo (opop rfl) ?_
        refine loop_norm (st1 := S5 n s b tag l v ok false false 0) ((nlrow 17 17 3 true rfl rfl rfl).trans (canon0 ⟨rfl, rfl, rfl, rfl, rfl, rfl, rfl, rfl, rfl, rfl, rfl, rfl, rfl, trivial⟩ ⟨rfl, trivial⟩ rfl rfl)) ?_
        refine loop5 n _ b tag l v ok _ _ _ l.length 0 (by omega) (by omega) fun st hn => ?_
        refine wn hn <| wo (opop rfl) <| wo (ocall rfl rfl (sat7 n h1 h2) rfl rfl rfl) <| wo (opop rfl) <| wo (ocall rfl rfl (sat12 n h1 h2) rfl rfl rfl) <| wo (obin rfl rfl (binv_sself _)) <| wo (opop rfl) <| wog rfl (opop rfl) <| wog rfl (opop rfl) <| wog rfl (obin rfl rfl (binv_self _ _)) <| wo (opop rfl) ?_
        refine wo (opop rfl) <| wog rfl (opop rfl) <| wog rfl (opop rfl) <| wog rfl (obeq rfl rfl (beqv_self _)) <| wo (opop rfl) <| wo (opop rfl) <| wog rfl (opop rfl) <| wog rfl (ocall rfl rfl (sat13 b) rfl rfl rfl) <| wog rfl (opop rfl) <| wog rfl (ocall rfl rfl (sat14 b) rfl rfl rfl) <| wog rfl (obin rfl rfl (binv_sself _)) ?_
        refine wo (opop rfl) <| wo (opop rfl) <| wog rfl (opop rfl) <| wog rfl (opop rfl) <| wog rfl (opop rfl) <| wog rfl (obin rfl rfl (binv_eqv e3)) <| wog rfl (opop rfl) <| wo (opop rfl) <| wo (opop rfl) <| wog rfl (opop rfl) <| wog rfl (opop rfl) <| wog rfl (opop rfl) <| wog rfl (obin rfl rfl (binv_eqv e3)) ?_
        refine wog rfl (opop rfl) <| wps rfl <| wps rfl <| wps rfl <| wog rfl (opop rfl) <| wog rfl (opop rfl) <| wo (opop rfl) <| wo (opop rfl) <| wog rfl (opop rfl) <| wog rfl (opop rfl) <| wog rfl (ocall rfl rfl (sat16 tag _) rfl rfl rfl) <| wog rfl (opop rfl) <| wog rfl (opop rfl) <| wog rfl (ocall rfl rfl (sat11 tag _) rfl rfl rfl) ?_
        refine wog rfl (ocall rfl rfl (same1 tag _) rfl rfl rfl) <| wo (opop rfl) <| wo (opop rfl) <| wog rfl (opop rfl) <| wog rfl (opop rfl) <| wog rfl (ocall rfl rfl (sat17 tag n h1 h2) rfl rfl rfl) <| wog rfl (opop rfl) <| wog rfl (opop rfl) <| wog rfl (ocall rfl rfl (sat18 tag n h1 h2) rfl rfl rfl) ?_
        refine wog rfl (ocall rfl rfl (same1 tag _) rfl rfl rfl) <| wo (opop rfl) <| wo (opop rfl) <| wog rfl (opop rfl) <| wog rfl (opop rfl) <| wog rfl (ocall rfl rfl (sat19 tag _ (txts l)) rfl rfl rfl) <| wog rfl (opop rfl) <| wog rfl (opop rfl) <| wog rfl (ocall rfl rfl (sat20 tag _ (txts l)) rfl rfl rfl) ?_
        refine wog rfl (ocall rfl rfl (sat15L tag l (by omega)) rfl rfl rfl) <| wo (opop rfl) <| wo (opop rfl) ?_
        exact ⟨nofun, rfl, rfl⟩
    · have e2 : decide (((strs l).length : Int) > 20) = true := decide_eq_true (by omega)
      refine wo (opop rfl) <| wo (ocall rfl rfl sat6 rfl rfl rfl) <| wo (opop rfl) ?_
      refine wcond rfl nofun (fun _ => ?_)
      refine wo (opop rfl) <| wo (opop rfl) <| wo (obin rfl rfl (binv_gt e1)) <| wo (opop rfl) <| wog rfl (opop rfl) <| wog rfl (opop rfl) <| wog rfl (obin rfl rfl (binv_gt e2)) <| wo (opop rfl) ?_
      refine wcond rfl (fun _ => ?_) nofun
      refine wo (opop rfl) ?_
      exact ⟨nofun, rfl, rfl⟩
  · have e1 : decide ((s.length : Int) > 100) = true := decide_eq_true (by omega)
    refine wo (opop rfl) <| wo (ocall rfl rfl sat6 rfl rfl rfl) <| wo (opop rfl) ?_
    refine wcond rfl nofun (fun _ => ?_)
    refine wo (opop rfl) <| wo (opop rfl) <| wo (obin rfl rfl (binv_gt e1)) <| wo (opop rfl) <| wps rfl <| wps rfl <| wps rfl <| wo (opop rfl) ?_
    refine wcond rfl (fun _ => ?_) nofun
    refine wo (opop rfl) ?_
    exact ⟨nofun, rfl, rfl⟩

end Go.Proofs.TR1
