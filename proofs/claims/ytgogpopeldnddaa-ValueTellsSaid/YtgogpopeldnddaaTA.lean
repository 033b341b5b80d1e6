import Derived.Test.YtgogpopeldnddaaProg
import Derived.Test.YtgogpopeldnddaaVeB
set_option linter.unusedVariables false
set_option linter.unusedSimpArgs false
namespace Go.Proofs.TR1
open Go.Vd Go.RowKit
theorem mixed : Try.prog.follows .mixedOrders = true := by kernel_rfl
def l7_0 : IC := (.seq (.block 1 (.seq (.reg [⟨(some 5), (.mov (.c (.int .i64 0))), none⟩]) (.seq (.mark (.seq (.reg [⟨(some 13), (.mov (.t 3)), none⟩, ⟨(some 14), (.ixp 1 (.t 13) (.c (.int .i64 0))), none⟩, ⟨(some 15), (.load 1 false (.t 14)), none⟩, ⟨(some 16), (.bin .and (.t 15) (.c (.int .u8 128))), none⟩, ⟨(some 17), (.bin .neq (.t 16) (.c (.int .u8 0))), none⟩]) (.cond (.t 17) (.reg [⟨(some 5), (.mov (.c (.int .i64 (-1)))), none⟩]) .skip))) (.seq (.seq (.reg [⟨(some 18), (.mov (.t 4)), none⟩, ⟨(some 19), (.mov (.t 5)), none⟩, ⟨(some 20), (.bin .eql (.t 18) (.t 19)), none⟩]) (.cond (.t 20) (.seq (.reg [⟨(some 21), (.mov (.t 3)), none⟩, ⟨(some 22), (.cvb (.t 21)), none⟩, ⟨(some 2), (.mov (.t 22)), none⟩]) .ret) .skip)) (.reg [⟨(some 23), (.mov (.t 4)), none⟩, ⟨(some 24), (.cvi .u8 (.t 23)), none⟩, ⟨(some 25), (.bsl 1 [(.t 24)]), none⟩, ⟨(some 26), (.mov (.t 3)), none⟩, ⟨(some 27), (.app 1 1 (.t 25) (.t 26)), none⟩, ⟨(some 3), (.mov (.t 27)), none⟩]))))) (.reg [⟨(some 11), (.mov (.t 4)), none⟩, ⟨(some 12), (.bin .shr (.t 11) (.c (.int .u64 8))), none⟩, ⟨(some 4), (.mov (.t 12)), none⟩]))
def k7 : IC := (.seq (.reg [⟨(some 2), (.mov (.c (.str []))), none⟩]) (.seq (.reg [⟨(some 6), (.mov (.t 0)), none⟩, ⟨(some 7), (.cvi .u8 (.t 6)), none⟩, ⟨(some 8), (.bsl 1 [(.t 7)]), none⟩, ⟨(some 3), (.mov (.t 8)), none⟩]) (.seq (.reg [⟨(some 9), (.mov (.t 0)), none⟩, ⟨(some 10), (.bin .shr (.t 9) (.c (.int .u64 8))), none⟩, ⟨(some 4), (.mov (.t 10)), none⟩]) (.block 0 (.loop l7_0)))))
theorem c7 : cfunc Try.prog Try.f7 = some ⟨28, k7.un, [(.tmp 2)]⟩ := by kernel_rfl

theorem hi128 : ∀ x : UInt8, ((((x &&& 128).toNat : Nat) : Int) != 0) = decide (128 ≤ x.toNat) := by
  intro x
  have key : ∀ n, n < 256 → (((((UInt8.ofNat n) &&& 128).toNat : Nat) : Int) != 0) = decide (128 ≤ (UInt8.ofNat n).toNat) := by decide +kernel
  have := key x.toNat x.toNat_lt
  rwa [UInt8.ofNat_toNat] at this

def sgn (x : UInt8) : Int := if ((((x &&& 128).toNat : Nat) : Int) != 0) = true then -1 else 0
def encL : Nat → Int → UInt8 → List UInt8 → List UInt8
  | 0, _, x, b => x :: b
  | k + 1, r, x, b => if r = sgn x then x :: b else encL k (r.fdiv 256) (byte r) (x :: b)
def enc (n : Int) : List UInt8 := encL 8 (n.fdiv 256) (byte n) []

theorem encL_ne {k : Nat} {r : Int} {x : UInt8} {b : List UInt8} (h : ¬ r = sgn x) : encL (k + 1) r x b = encL k (r.fdiv 256) (byte r) (x :: b) := if_neg h
theorem encL_eq {k : Nat} {r : Int} {x : UInt8} {b : List UInt8} (h : r = sgn x) : encL (k + 1) r x b = x :: b := if_pos h

theorem sgn_eq (x : UInt8) : sgn x = if 128 ≤ x.toNat then -1 else 0 := by
  unfold sgn
  rw [hi128]
  by_cases h : 128 ≤ x.toNat <;> simp [h]

theorem p2 (k : Nat) : (2 : Int) ^ (8 * (k + 1) + 7) = 256 * 2 ^ (8 * k + 7) := by
  rw [show 8 * (k + 1) + 7 = (8 * k + 7) + 8 from by omega, Int.pow_add]
  omega

theorem sgn_end {r : Int} {x : UInt8} (h1 : -(2 : Int) ^ (8 * 0 + 7) ≤ r * 256 + x.toNat) (h2 : r * 256 + x.toNat < (2 : Int) ^ (8 * 0 + 7)) : r = sgn x := by
  rw [sgn_eq]
  have := x.toNat_lt
  split <;> omega
theorem step_bounds {k : Nat} {r : Int} {x : UInt8} (h1 : -(2 : Int) ^ (8 * (k + 1) + 7) ≤ r * 256 + x.toNat) (h2 : r * 256 + x.toNat < (2 : Int) ^ (8 * (k + 1) + 7)) :
    -(2 : Int) ^ (8 * k + 7) ≤ r.fdiv 256 * 256 + (byte r).toNat ∧ r.fdiv 256 * 256 + (byte r).toNat < (2 : Int) ^ (8 * k + 7) := by
  rw [byte_toNat]
  have h3 : r.fdiv 256 * 256 + r % 256 = r := by
    rw [Int.fdiv_eq_ediv_of_nonneg _ (by decide)]
    omega
  rw [h3]
  rw [p2] at h1 h2
  have := x.toNat_lt
  omega

def S7 (r : Int) (b : List UInt8) : St := ⟨ofL [(3, .slr 0 0 b.length), (4, .int .i64 r)], ofL [(0, ⟨1, true, bytesP b⟩)]⟩

theorem loop7 (Q : Xt → St → Prop) : ∀ (k : Nat) (r : Int) (x : UInt8) (b : List UInt8), (∀ st, st.s 2 = some (.str (encL (k + 1) r x b)) → Q .ret st) → b.length + k ≤ 50 →
    -(2 : Int) ^ (8 * k + 7) ≤ r * 256 + x.toNat → r * 256 + x.toNat < (2 : Int) ^ (8 * k + 7) →
    ∃ e st', Ex Try.prog (fun _ => false) (.loop l7_0.un) (S7 r (x :: b)) e st' ∧ Q e st' := by
  intro k
  induction k with
  | zero =>
    intro r x b hQ hl h1 h2
    have hr := sgn_end h1 h2
    refine loop_round ?_
    refine wp rfl ?_
    refine wjoin ⟨ofL [(3, .slr 0 0 (x :: b).length), (4, .int .i64 r), (5, .int .i64 (sgn x))], ofL [(0, ⟨1, true, bytesP (x :: b)⟩)]⟩ ?_ ?_
    · refine wp rfl ?_
      refine wo (oixr (i := 0) rfl rfl rfl rfl rfl (Nat.zero_lt_succ _)) ?_
      refine wp rfl ?_
      refine wo (obin rfl rfl (binv_u8and x 128)) ?_
      refine wp rfl ?_
      refine wcond rfl (fun h => ?_) (fun h => ?_)
      · refine wp rfl ?_
        exact canon0 ⟨rfl, rfl, vi (by simp only [sgn, h]; rfl), trivial⟩ ⟨rfl, trivial⟩ rfl rfl
      · exact canon0 ⟨rfl, rfl, vi (by simp only [sgn, h]; rfl), trivial⟩ ⟨rfl, trivial⟩ rfl rfl
    refine wp rfl ?_
    refine wp rfl ?_
    refine wp rfl ?_
    refine wcond rfl (fun g => ?_) (fun g => ?_)
    · refine wp rfl ?_
      refine wo (ocvb rfl rfl rfl rfl (take_all (bytesP_length _))) ?_
      refine wp rfl ?_
      exact hQ _ (vs (by simp [encL, hr]))
    · simp [← hr] at g
  | succ k ih =>
    intro r x b hQ hl h1 h2
    refine loop_round ?_
    refine wp rfl ?_
    refine wjoin ⟨ofL [(3, .slr 0 0 (x :: b).length), (4, .int .i64 r), (5, .int .i64 (sgn x))], ofL [(0, ⟨1, true, bytesP (x :: b)⟩)]⟩ ?_ ?_
    · refine wp rfl ?_
      refine wo (oixr (i := 0) rfl rfl rfl rfl rfl (Nat.zero_lt_succ _)) ?_
      refine wp rfl ?_
      refine wo (obin rfl rfl (binv_u8and x 128)) ?_
      refine wp rfl ?_
      refine wcond rfl (fun h => ?_) (fun h => ?_)
      · refine wp rfl ?_
        exact canon0 ⟨rfl, rfl, vi (by simp only [sgn, h]; rfl), trivial⟩ ⟨rfl, trivial⟩ rfl rfl
      · exact canon0 ⟨rfl, rfl, vi (by simp only [sgn, h]; rfl), trivial⟩ ⟨rfl, trivial⟩ rfl rfl
    refine wp rfl ?_
    refine wp rfl ?_
    refine wp rfl ?_
    refine wcond rfl (fun g => ?_) (fun g => ?_)
    · refine wp rfl ?_
      refine wo (ocvb rfl rfl rfl rfl (take_all (bytesP_length _))) ?_
      refine wp rfl ?_
      exact hQ _ (vs (by rw [encL, if_pos (by simpa using g)]))
    · have hne : ¬ r = sgn x := by simpa using g
      refine wp rfl ?_
      refine wo (ocvi rfl (u8_wrap r)) ?_
      refine wo (obsl 1 rfl rfl rfl) ?_
      refine wp rfl ?_
      refine wo (oapp 2 rfl rfl rfl (elems_row rfl rfl rfl (take_all (bytesP_length _)) (by simp [bytesP_length])) (fun _ _ => rfl) rfl (by simp [bytesP_length]; omega) rfl) ?_
      refine wn (canonR0 2 0 [(4, .int .i64 r), (27, .slr 2 0 (byte r :: x :: b).length)] [(2, ⟨1, true, bytesP (byte r :: x :: b)⟩)] (l' := [(4, .int .i64 r), (27, .slr 0 0 (byte r :: x :: b).length)]) (m' := [(0, ⟨1, true, bytesP (byte r :: x :: b)⟩)])
        ⟨rfl, vt (by simp [bytesP_length]; omega), trivial⟩ ⟨rfl, trivial⟩ rfl rfl rfl ⟨rfl, rfl, trivial⟩ ⟨rfl, trivial⟩ rfl rfl) ?_
      refine wp rfl ?_
      refine wp rfl ?_
      refine wo (obin rfl rfl (binv_shr _ _ 8 (by decide))) ?_
      refine wp rfl ?_
      refine loop_norm (st1 := S7 (r.fdiv 256) (byte r :: x :: b)) (canon0 ⟨rfl, rfl, trivial⟩ ⟨rfl, trivial⟩ rfl rfl) ?_
      have hb := step_bounds h1 h2
      refine ih (r.fdiv 256) (byte r) (x :: b) (fun st hst => hQ st ?_) (by simp; omega) hb.1 hb.2
      rw [hst, encL_ne hne]

theorem sat7 (n : Int) (h1 : -9223372036854775808 ≤ n) (h2 : n < 9223372036854775808) : Sat Try.prog 7 noRows [.int .i64 n] (.str (enc n)) noRows := by
  refine sat_plain mixed Try.func7 c7 (rs := [_]) rfl rfl ?_
  refine wp rfl ?_
  refine wp rfl ?_
  refine wo (ocvi rfl (u8_wrap n)) ?_
  refine wo (obsl 0 rfl rfl rfl) ?_
  refine wp rfl ?_
  refine wp rfl ?_
  refine wo (obin rfl rfl (binv_shr _ _ 8 (by decide))) ?_
  refine wp rfl ?_
  refine loop_norm (st1 := S7 (n.fdiv 256) [byte n]) (canon0 ⟨rfl, rfl, trivial⟩ ⟨rfl, trivial⟩ rfl rfl) ?_
  have h3 : n.fdiv 256 * 256 + (byte n).toNat = n := by
    rw [byte_toNat, Int.fdiv_eq_ediv_of_nonneg _ (by decide)]
    omega
  refine loop7 _ 7 (n.fdiv 256) (byte n) [] (fun st hst => ?_) (by decide) (by rw [h3]; exact h1) (by rw [h3]; exact h2)
  exact ⟨nofun, by simp only [gets, IRes.get, hst]; rfl, rfl⟩
end Go.Proofs.TR1
