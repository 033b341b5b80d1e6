import Derived.Test.YtgogpopeldnddaaTJ
set_option linter.unusedVariables false
set_option linter.unusedSimpArgs false
namespace Go.Proofs.TR1
open Go.Vd Go.RowKit

def txt (s : List UInt8) : PV := .agg [.int .u8 4, .str s, .nl]
def strs (l : List (List UInt8)) : List PV := l.map .str

theorem sat19 (tag : Int) (xs : List PV) (hx : PV.tks (fun _ => false) xs = true) : Sat Try.prog 19 noRows [.int .u8 tag, .sl 3 xs] (.agg [.int .u8 tag, .str [], .sl 3 xs]) noRows := by
  refine sat_plain mixed Try.func19 c19 (rs := [_]) rfl rfl ?_
  refine wo (obox 4 rfl rfl rfl rfl) <| wo (opop rfl) <| wo (opop rfl) <| wo (opop rfl) <| wo (osto rfl rfl rfl rfl rfl rfl rfl rfl nofun) ?_
  exact ⟨nofun, rfl, rfl⟩
theorem sat20 (tag : Int) (xs : List PV) (hx : PV.tks (fun _ => false) xs = true) : Sat Try.prog 20 noRows [.int .u8 tag, .sl 3 xs] (.agg [.int .u8 tag, .str [], .sl 3 xs]) noRows := by
  refine sat_plain mixed Try.func20 c20 (rs := [_]) rfl rfl ?_
  refine wo (obox 4 rfl rfl rfl rfl) <| wo (opop rfl) <| wo (opop rfl) <| wo (opop rfl) <| wo (osto rfl rfl rfl rfl rfl rfl rfl rfl nofun) ?_
  exact ⟨nofun, rfl, rfl⟩

def eP (tag : Int) (l : List (List UInt8)) : PV := .agg [.int .u8 tag, .str [], .sl 3 (l.map txt)]
def S15 (tag : Int) (l : List (List UInt8)) (i : Nat) : St := ⟨ofL [(2, .ptr 2 0 0), (3, .ptr 3 0 0), (5, .int .i64 (i : Int))], ofL [(2, ⟨3, false, [eP tag l]⟩), (3, ⟨3, false, [eP tag l]⟩)]⟩

theorem same_flat (s : List UInt8) : Sat Try.prog 15 noRows [txt s, txt s] (.bool true) noRows := by
  have h := sat15 4 4 s s
  have e : (!((4 : Int) != 4 || !(s == s))) = true := by simp
  rw [e] at h
  exact h

theorem loop15 (tag : Int) (l : List (List UInt8)) (Q : Xt → St → Prop) : ∀ (m i : Nat), l.length = i + m → l.length ≤ 1000 → (∀ st, Q (.exit 0) st) →
    ∃ e st', Ex Try.prog (fun _ => false) (.loop l15_0.un) (S15 tag l i) e st' ∧ Q e st' := by
  intro m
  induction m with
  | zero =>
    intro i hi hs hQ
    refine loop_round ?_
    refine wo (opop rfl) <| wo (opop rfl) <| wo (opop rfl) <| wo (opop rfl) <| wo (opop rfl) ?_
    refine wcond rfl (fun c => absurd (of_decide_eq_true c) (by simp; omega)) (fun c => ?_)
    exact hQ _
  | succ m ih =>
    intro i hi hs hQ
    have hlt : i < l.length := by omega
    have hget : l[i]? = some (l[i]'hlt) := List.getElem?_eq_getElem hlt
    generalize l[i]'hlt = b at hget
    have hg : (l.map txt)[i]? = some (txt b) := by rw [List.getElem?_map, hget]; rfl
    refine loop_round ?_
    refine wo (opop rfl) <| wo (opop rfl) <| wo (opop rfl) <| wo (opop rfl) <| wo (opop rfl) ?_
    refine wcond rfl (fun c => ?_) (fun c => absurd (of_decide_eq_false c) (by simp; omega))
    refine wregd ?_
    refine wd rfl (T := fun _ => false) (opop rfl) <| wd rfl (T := fun _ => false) (opop rfl) <| wd rfl (T := fun _ => false) (opop rfl) <| wd rfl (T := fun _ => false) (oixs (i := i) (e := txt b) rfl rfl rfl hg) <| wd rfl (T := fun _ => false) (opop rfl) <|
      wd rfl (T := fun _ => false) (opop rfl) <| wd rfl (T := fun _ => false) (opop rfl) <| wd rfl (T := fun _ => false) (opop rfl) <| wd rfl (T := fun _ => false) (oixs (i := i) (e := txt b) rfl rfl rfl hg) <| wd rfl (T := fun _ => false) (opop rfl) <|
      wdcall rfl rfl rfl (same_flat b) rfl rfl rfl <| wd rfl (T := fun _ => false) (opop rfl) ?_
    refine wcond rfl nofun (fun c => ?_)
    refine wo (opop rfl) <| wo (obin rfl rfl (binv_add (c := ((i + 1 : Nat) : Int)) (by omega) (by omega) (by omega))) <| wo (opop rfl) ?_
    refine loop_norm (st1 := S15 tag l (i + 1)) (canon0 ⟨rfl, rfl, rfl, trivial⟩ ⟨rfl, rfl, trivial⟩ rfl rfl) ?_
    exact ih (i + 1) (by omega) hs hQ

theorem sat15L (tag : Int) (l : List (List UInt8)) (hl : l.length ≤ 1000) : Sat Try.prog 15 noRows [eP tag l, eP tag l] (.bool true) noRows := by
  refine sat_plain mixed Try.func15 c15 (rs := [_]) rfl rfl ?_
  have e1 : (tag != tag) = false := by simp
  refine wo (obox 2 rfl rfl rfl rfl) <| wo (obox 3 rfl rfl rfl rfl) <| wo (opop rfl) <| wo (opop rfl) <| wo (opop rfl) <| wo (opop rfl) <| wo (opop rfl) <| wo (obin rfl rfl (binv_nself _ _)) <| wo (opop rfl) <| wog rfl (opop rfl) <| wog rfl (opop rfl) <| wog rfl (opop rfl) <| wog rfl (opop rfl) <| wog rfl (opop rfl) ?_
  refine wo (opop rfl) <| wo (opop rfl) <| wog rfl (opop rfl) <| wog rfl (opop rfl) <| wog rfl (opop rfl) <| wog rfl (opop rfl) <| wog rfl (opop rfl) <| wog rfl (opop rfl) <| wog rfl (obin rfl rfl (binv_nself _ _)) <| wo (opop rfl) ?_
  refine wcond rfl nofun (fun _ => ?_)
  refine wo (opop rfl) ?_
  refine loop_norm (st1 := S15 tag l 0) (canon0 ⟨rfl, rfl, rfl, trivial⟩ ⟨rfl, rfl, trivial⟩ rfl rfl) ?_
  refine loop15 tag l _ l.length 0 (by omega) hl fun st => ?_
  skip
  refine wo (opop rfl) ?_
  exact ⟨nofun, rfl, rfl⟩

theorem rd_range (s : List UInt8) : -9223372036854775808 ≤ rd s ∧ rd s < 9223372036854775808 := by
  have step : ∀ (n : Int) (c : UInt8), -9223372036854775808 ≤ rdStep n c ∧ rdStep n c < 9223372036854775808 := by
    intro n c
    have h := i64_range (n * 256)
    have hc := c.toNat_lt
    unfold rdStep
    omega
  have key : ∀ (s : List UInt8) (n : Int), (-9223372036854775808 ≤ n ∧ n < 9223372036854775808) → -9223372036854775808 ≤ s.foldl rdStep n ∧ s.foldl rdStep n < 9223372036854775808 := by
    intro s
    induction s with
    | nil => intro n h; exact h
    | cons x r ih => intro n h; exact ih _ (step n x)
  refine key s _ ?_
  rw [sgn_eq]
  split <;> omega

theorem both (s : List UInt8) (hs : s.length ≤ 1000) : ∃ (v : Int) (ok : Bool), Sat Try.prog 8 noRows [.str s] (.tup [.int .i64 v, .bool ok]) noRows ∧ Sat Try.prog 9 noRows [.str s] (.tup [.int .i64 v, .bool ok]) noRows := by
  by_cases hb : BadI s
  · exact ⟨0, false, sat8 s hs [_, _] (fun _ => rfl) (fun h => absurd hb h) (rd_range s), sat9 s hs [_, _] (fun _ => rfl) (fun h => absurd hb h) (rd_range s)⟩
  · exact ⟨rd s, true, sat8 s hs [_, _] (fun h => absurd h hb) (fun _ => rfl) (rd_range s), sat9 s hs [_, _] (fun h => absurd h hb) (fun _ => rfl) (rd_range s)⟩

theorem sat10_n (s : List UInt8) (hs : s.length ≠ 1) : Sat Try.prog 10 noRows [.str s] (.tup [.bool false, .bool false]) noRows := by
  have e : ((s.length : Int) == 1) = false := by simpa using by omega
  refine sat_plain mixed Try.func10 c10 (rs := [_, _]) rfl rfl ?_
  refine wo (opop rfl) <| wo (opop rfl) <| wo (opop rfl) <| wo (opop rfl) <| wo (obin rfl rfl (binv_eqv e)) <| wo (opop rfl) <| wps rfl <| wps rfl <| wps rfl <| wo (opop rfl) <| wo (opop rfl) <| wo (opop rfl) <| wo (obin rfl rfl (binv_eqv e)) <| wo (opop rfl) <| wo (opop rfl) ?_
  exact ⟨nofun, rfl, rfl⟩

end Go.Proofs.TR1
