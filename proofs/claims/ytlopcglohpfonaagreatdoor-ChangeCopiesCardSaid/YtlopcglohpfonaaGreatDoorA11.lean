/- A part of the proof: functions of the program and what they compute. -/
import Derived.Test.YtlopcglohpfonaaGreatDoorA9
import Derived.Test.YtlopcglohpfonaaGreatDoorA10
import Derived.Test.YtlopcglohpfonaaGreatDoorA5
import Derived.Test.YtlopcglohpfonaaGreatDoorA8
section
set_option linter.unusedVariables false
set_option linter.unusedSimpArgs false
set_option maxRecDepth 4000
set_option maxHeartbeats 4000000
namespace Go.Gp
open Go.Vd Go.RowKit Go.Proofs
theorem unpr [BA] {T : Nat → Bool} (t : Nat) {sz : Nat} {cs : List PV} {st : St} (ht : st.r t = some ⟨sz, true, cs⟩) (hty : IP t = none) : C9 T st ⟨st.s, upd st.r t (some ⟨sz, false, cs⟩)⟩ := by
 intro w0 O L n μ a w hL h
 have he : ∀ u row, (fun _ => true) u = true → st.r u = some row → μ u = μ u ∧ ∃ row', upd st.r t (some ⟨sz, false, cs⟩) u = some row' ∧ row'.sz = row.sz ∧ row.cs.length ≤ row'.cs.length := by
  intro u row _ hu
  refine ⟨rfl, ?_⟩
  by_cases e : u = t
  ·subst e
   rw [ht] at hu
   cases hu
   exact ⟨_, upd_same .., rfl, Nat.le_refl _⟩
  ·exact ⟨row, by rw [upd_ne _ _ e]; exact hu, rfl, Nat.le_refl _⟩
 have hin : ∀ u row, upd st.r t (some ⟨sz, false, cs⟩) u = some row → ∃ row', st.r u = some row' := by
  intro u row hu
  by_cases e : u = t
  ·subst e; exact ⟨_, ht⟩
  ·rw [upd_ne _ _ e] at hu; exact ⟨_, hu⟩
 have hO : ∀ b, b < w.heap.size → Av O μ (upd st.r t (some ⟨sz, false, cs⟩)) b → Av O μ st.r b := by
  intro b _ hb
  rcases hb with hb | ⟨u, row, l, h1, h2, h3⟩
  ·exact .inl hb
  ·obtain ⟨row', h4⟩ := hin u row h1
   exact .inr ⟨u, row', l, h4, h2, h3⟩
 have hw : ∀ b, b < w.heap.size → ¬ Av O μ st.r b → w.heap[b]? = w.heap[b]? := fun _ _ _ => rfl
 refine ⟨μ, h.dfr, h.size, h.fr, h.out, fun j p hj => ?_, fun u row hu => ?_, fun u u' r r' l l' h1 h2 h3 h4 h5 => ?_, fun u r l h1 h2 => ?_, fun u hu => ?_⟩
 ·obtain ⟨v, hv, hr⟩ := h.slot j p hj
  exact ⟨v, hv, hr.mono (fun _ => true) hw hO he (PV.tk_true _)⟩
 ·simp only at hu
  by_cases e : u = t
  ·subst e
   rw [upd_same] at hu
   cases hu
   have k := h.row u _ ht
   refine ⟨k.sz, fun z hz => ?_, fun hn => ?_, fun l hl => ?_, fun q hq l hl => by rw [hty] at hq; cases hq⟩
   ·exact k.el z hz
   ·exact k.non hn
   ·obtain ⟨arr, ety, fz, h1, h2, h3, h4, h5⟩ := k.lie l hl
    refine ⟨arr, ety, fz, h1, h2, h3, h4, fun i z j q hi hj => ?_⟩
    obtain ⟨v, hv, hc⟩ := h5 i z j q hi hj
    refine ⟨v, hv, ?_⟩
    unfold D6 at hc ⊢
    rw [if_pos rfl] at hc
    rw [if_neg (by simp)]
    exact .base _ _ (hc.frame (fun _ _ _ => rfl) hO)
  ·rw [upd_ne _ _ e] at hu
   exact (h.row u row hu).mono (fun _ => true) hw hO he rfl (fun _ _ => rfl) (by unfold Row.tk; rw [RU]; simp)
 ·obtain ⟨s, hs'⟩ := hin u r h1
  obtain ⟨s', hs''⟩ := hin u' r' h2
  exact h.inj u u' s s' l l' hs' hs'' h3 h4 h5
 ·obtain ⟨s, hs'⟩ := hin u r h1
  exact h.own u s l hs' h2
 ·obtain ⟨h1, r, h2⟩ := h.keep u hu
  obtain ⟨_, row', h3, _⟩ := he u r rfl h2
  exact ⟨h1, row', h3⟩
theorem p_fda {x : DD} {s : EY} {R : Vd.Rows} {t i o off : Nat} {row : Row} (hx : x.ev s = some (.ptr t i o)) (hr : R t = some row) (h : o + off < row.sz) : pop s R (.fda off x) = some (.ptr t i (o + off)) := by
 simp only [pop, hx, Option.bind_some, dS, hr]
 rw [if_pos h]
theorem EZ {α : Type} {f : Nat → Option α} {k n : Nat} {v : Option α} {y : Option α} (h : n ≠ k) (hf : f n = y) : upd f k v n = y := by rw [upd_ne _ _ h, hf]
theorem UL {t k : Nat} {row : Row} (h : t ≠ k) : AX [(k, row)] t = none := by
 show (bif Nat.beq t k then some row else none) = none
 rw [Vd.E8 h]; rfl
theorem l4 {α : Type} {a b c d a' b' c' d' : α} (h1 : a = a') (h2 : b = b') (h3 : c = c') (h4 : d = d') : [a, b, c, d] = [a', b', c', d'] := by rw [h1, h2, h3, h4]
theorem eH (a : List AY) (x : AY) : IX (a ++ [x]) = IX a ++ [x.Values] := by unfold IX; rw [List.map_append]; rfl
theorem RS (a : List AY) : (IX a).length = a.length := List.length_map _
theorem lC (c : AR) : ∀ (b a : List AY) (i : Int), i = (a.length : Int) → (a ++ b).length ≤ 900 → (∀ m ∈ b, m.Values.length ≤ 1000000) →
  WX Tryz.prog (fun _ => false) (.loop iP) (SC c (a ++ b).length i a b) (fun e s => e = .exit 0 ∧ s = ⟨AX [(1, .ptr 24001 0 0), (2, .ptr 24002 0 0)], SV (IX (a ++ b)) (fx c (a ++ b).length (dn 0 (a ++ b)))⟩) := by
 intro b
 induction b with
 | nil =>
  intro a i hi hl hm
  refine gM ?_
  refine AA (AB ?_)
  refine wq rfl ?_
  refine AA ?_
  refine xcF rfl (show decide (i < ((a ++ []).length : Int)) = false by rw [hi]; simp) ?_
  refine D9 (st1 := ⟨AX [(1, .ptr 24001 0 0), (2, .ptr 24002 0 0)], SV (IX (a ++ [])) (fx c (a ++ []).length (dn 0 (a ++ [])))⟩) ?_ ⟨nofun, rfl, rfl⟩
  rw [List.append_nil]
  have e : dn 0 a ++ td a.length [] = dn 0 a := List.append_nil _
  refine SH _ _ _ rfl ?_ (fun j v hv => OZ hv) rfl (qR _ _ _ _ (bV _ _ _ fun j h1 h2 => NM _ _ _ (by omega)))
  rw [← e]; rfl
 | cons x b ih =>
  intro a i hi hl hm
  have hlen := hl
  simp only [List.length_append, List.length_cons] at hlen
  have hga : (dn 0 a).length = a.length := yA a 0
  have hget : (dn 0 a ++ td a.length (x :: b))[a.length]? = some (a.length, false, x) := by
   have := KQ (dn 0 a) (td (a.length + 1) b) (a.length, false, x)
   rw [hga] at this
   exact this
  have hchk : NF i (a ++ x :: b).length = some a.length := by rw [hi]; exact VE a b x
  have hcl : L8 16 x.Values = some x.Values := by
   unfold L8
   have := hm x List.mem_cons_self
   rw [if_pos ⟨by unfold maxLen; omega, by omega⟩]
  refine gL ?_
  refine AA (AB ?_)
  refine wq rfl ?_
  refine AA ?_
  refine Dr rfl (show decide (i < ((a ++ x :: b).length : Int)) = true by rw [hi]; simp; omega) ?_
  refine BH (AA (CJ (AA (AB ?_))))
  refine wq rfl ?_
  refine AZ rfl (KF hchk rfl rfl rfl rfl) ?_
  refine AZ rfl (Q4 (f := fA) (l := dn 0 a ++ td a.length (x :: b)) (e := (a.length, false, x)) (v := AL x) hget rfl rfl rfl) ?_
  refine CW rfl (F8 24004 rfl rfl rfl rfl rfl) ?_
  refine wq rfl ?_
  refine ED (e' := AL x) rfl rfl rfl rfl rfl rfl rfl rfl nofun rfl ?_
  refine NG ?_
  iterate 5 refine dq rfl ?_
  refine QK rfl (vB [(24100 + a.length, ⟨1, true, List.map PV.str x.Values⟩)] (Z4 PV.str (24100 + a.length) (uD _ (by omega)) hcl) rfl (.cons A9 .nil) rfl ?_ rfl rfl) ?_ ?_
  ·show ((bif Nat.beq (24100 + a.length) (24100 + a.length) then some _ else none).isSome) = true
   rw [Vd.FM]; rfl
  ·intro t row h
   have ht : t = 24100 + a.length := by
    by_cases e : t = 24100 + a.length
    ·exact e
    ·rw [UL e] at h; cases h
   subst ht
   refine EZ (by omega) (EZ (by omega) ?_)
   show SV (IX a) _ _ = none
   unfold SV
   rw [FZ (Dl (by rw [RS]; exact Nat.le_refl _))]
   show (bif Nat.beq (24100 + a.length) 24001 then _ else bif Nat.beq (24100 + a.length) 24002 then _ else bif Nat.beq (24100 + a.length) 24007 then _ else bif Nat.beq (24100 + a.length) 24011 then _ else none) = none
   rw [Vd.E8 (by omega), Vd.E8 (by omega), Vd.E8 (by omega), Vd.E8 (by omega)]; rfl
  refine JF rfl (KF hchk rfl rfl ((FZ (UL (by omega))).trans rfl) rfl) ?_
  refine JF rfl (p_fda rfl ((FZ (UL (by omega))).trans rfl) (show 0 + 2 < 3 by decide)) ?_
  have hvs : (IX a ++ [x.Values])[a.length]? = some x.Values := by
   have := KQ (IX a) [] x.Values
   rwa [RS] at this
  have htk : ∀ f : Nat → Bool, (∀ j, j < a.length → f (24100 + j) = true) → PV.tks f (List.map fA (dn 0 a ++ td a.length (x :: b))) = true := by
   intro f hf
   rw [List.map_append]
   exact gZ f _ _ (bV f a 0 fun j _ h => hf j (by omega)) (oQ f _ _)
  have hsome : ∀ (m : List (Nat × Row)) (j : Nat), j ≤ a.length → (SV (IX a ++ [x.Values]) m (24100 + j)).isSome = true := by
   intro m j hj
   rw [← eH]
   exact NM _ _ _ (by simp; omega)
  refine wn (SH [(1, .ptr 24001 0 0), (2, .ptr 24002 0 0), (14, .slr 24011 0 (a ++ x :: b).length), (15, .int .i64 ((a ++ x :: b).length : Int)), (16, .int .i64 i), (26, .slr (24100 + a.length) 0 x.Values.length), (28, .ptr 24011 a.length (0 + 2))] (fx c (a ++ x :: b).length (dn 0 a ++ td a.length (x :: b))) (IX a ++ [x.Values]) rfl ?_ ?_ ?_ ?_) ?_
  ·exact l4 ((FZ (UL (by omega))).trans rfl) ((FZ (UL (by omega))).trans rfl) ((FZ (UL (by omega))).trans rfl) ((FZ (UL (by omega))).trans rfl)
  ·intro j v hv
   by_cases hj : j = a.length
   ·subst hj
    rw [hvs] at hv
    cases hv
    refine LB ?_
    show (bif Nat.beq (24100 + a.length) (24100 + a.length) then _ else none) = _
    rw [Vd.FM]; rfl
   ·have hj2 : j < a.length := by
     have := (List.getElem?_eq_some_iff.1 hv).1
     simp [RS] at this
     omega
    rw [List.getElem?_append_left (by rw [RS]; exact hj2)] at hv
    exact (FZ (UL (by omega))).trans (EZ (by omega) (EZ (by omega) (OZ hv)))
  ·show (true && (true && (true && (true && (true && ((SV _ _ (24100 + a.length)).isSome && (true && true))))))) = true
   rw [hsome _ _ (Nat.le_refl _)]; rfl
  ·exact qR _ _ _ _ (htk _ fun j hj => hsome _ _ (by omega))
  refine jK (f := fA) (l := dn 0 a ++ td a.length (x :: b)) (e := (a.length, false, x)) (e' := (a.length, true, x)) hget rfl rfl rfl rfl rfl rfl rfl rfl nofun rfl ?_
  have hset : (dn 0 a ++ td a.length (x :: b)).set a.length (a.length, true, x) = dn 0 (a ++ [x]) ++ td (a ++ [x]).length b := by
   have := set_mid (dn 0 a) (td (a.length + 1) b) (a.length, false, x) (a.length, true, x)
   rw [hga] at this
   rw [yB, List.length_append, List.append_assoc, Nat.zero_add]
   exact this
  rw [hset]
  refine AB ?_
  refine AZ (p := .int .i64 (BX (i + (1 : Int)))) rfl rfl ?_
  refine wq rfl ?_
  refine ⟨rfl, ?_⟩
  have hi2 := ih (a ++ [x]) (BX (i + 1)) (by rw [hi]; exact FT (a := a) (b := b) (x := x) (by omega)) (by rw [← F9]; exact hl) (fun m h => hm m (List.mem_cons_of_mem _ h))
  rw [← F9] at hi2
  refine NH (SH _ _ _ rfl rfl (fun j v hv => ?_) rfl ?_) hi2
  ·rw [eH] at hv
   exact EZ (by omega) (OZ hv)
  ·refine qR _ _ _ _ ?_
   rw [List.map_append]
   exact gZ _ _ _ (bV _ _ _ fun j _ h => NM _ _ _ (by omega)) (oQ _ _ _)
theorem Fz [BA] {vs : List (List (List UInt8))} {m : List (Nat × Row)} {R : Vd.Rows} (hv : ∀ j v, vs[j]? = some v → R (24100 + j) = some (dL v)) (hr : ZK R m = TW m) (h2 : IK (fun t => (SV vs m t).isSome) (m.map (·.2)) = true) :
  ∀ t row, SV vs m t = some row → R t = some row ∧ row.tk (fun t => (SV vs m t).isSome) = true := by
 intro t row ht'
 cases hV : VR vs t with
 | some row' =>
  unfold SV at ht'
  rw [LB hV] at ht'
  cases ht'
  obtain ⟨j, v, rfl, h3, rfl⟩ := oL hV
  exact ⟨hv j v h3, by unfold Row.tk dL; rfl⟩
 | none =>
  unfold SV at ht'
  rw [FZ hV] at ht'
  exact ⟨(OL hr).get t row ht', JY h2 row (NW ht')⟩
theorem xsatF [BA] {P : Program} (hm : P.follows .mixedOrders = true) {f : FuncId} {fn : Func} {n : Nat} {code : IC} {rv : List YV} (hf : P.funcs[f]? = some fn) (hc : BV P fn = some ⟨n, code, rv⟩) {ps rs : List PV} {res : PV} (N : Vd.Rows) (hr : aX rs = res) (hlen : Nat.ble ps.length n = true)
  (h : WX P (fun _ => false) code ⟨s0 n ps, AC⟩ fun e st' => (∀ id, e ≠ .exit id) ∧ gets st' rv = some rs ∧ PV.tks (fun t => (N t).isSome) rs = true ∧ (∀ t row, N t = some row → st'.r t = some row ∧ row.tk (fun t => (N t).isSome) = true)) : Sat P f AC ps res N := by
 obtain ⟨e, s, h1, h2, h3, h4, h5⟩ := h
 subst hr
 exact mK hm hf hc (Nat.le_of_ble_eq_true hlen) h1 h2 h3 h4 h5 (fun t row h => by simp [AC] at h)
abbrev cm (c : AR) : List (Nat × Row) := [(24007, ⟨2, true, List.map AV c.RDN⟩), (24011, ⟨3, false, List.map fA (dn 0 c.Mods)⟩)]
theorem Ee (c : AR) (f : Nat → Bool) (h : PV.tks f (List.map fA (dn 0 c.Mods)) = true) : IK f ((cm c).map (·.2)) = true := by
 show (true && ((false || PV.tks f (List.map fA (dn 0 c.Mods))) && true)) = true
 rw [h]; rfl
theorem XG (c : AR) (h1 : c.RDN.length ≤ 1000000) (h2 : c.Mods.length ≤ 900) (h3 : ∀ m ∈ c.Mods, m.Values.length ≤ 1000000) : Sat Tryz.prog 15 AC [AJ c] (Eg c c.Mods.length) (SV (IX c.Mods) (cm c)) := by
 have hx7 : L8 32 c.RDN = some c.RDN := by
  unfold L8
  rw [if_pos ⟨by unfold maxLen; omega, by omega⟩]
 have WH : L8 48 c.Mods = some c.Mods := by
  unfold L8
  rw [if_pos ⟨by unfold maxLen; omega, by omega⟩]
 refine xsatF mixed Tryz.func15 wK (rs := [Eg c c.Mods.length]) (SV (IX c.Mods) (cm c)) rfl rfl ?_
 refine AA (AB ?_)
 refine CW rfl (F8 24001 rfl rfl rfl rfl rfl) ?_
 refine CW rfl (F8 24002 rfl rfl rfl rfl rfl) ?_
 refine AA (AB ?_)
 iterate 2 refine wq rfl ?_
 refine CW rfl (pK [(24007, ⟨2, true, List.map AV c.RDN⟩)] (Z6 AV 24007 rfl hx7) rfl (.cons A9 .nil) rfl rfl rfl rfl rfl) ?_
 refine wq rfl ?_
 refine ED (e' := .agg [.int .i64 c.CSN.Time, .int .i64 c.CSN.Seq, .int .i64 c.CSN.Rep, .int .i64 c.Kind, .int .i64 c.ID.Time, .int .i64 c.ID.Seq, .int .i64 c.ID.Rep, .int .i64 c.Parent.Time, .int .i64 c.Parent.Seq, .int .i64 c.Parent.Rep, .slr 24007 0 c.RDN.length, .bool c.DelOld, .sl 3 (List.map AL c.Mods)]) rfl rfl rfl rfl rfl rfl rfl rfl nofun rfl ?_
 refine AA (AB ?_)
 iterate 2 refine wq rfl ?_
 refine CW rfl (pK [(24011, ⟨3, true, List.map AL c.Mods⟩)] (Z5 AL 24011 rfl WH) rfl (.cons A9 .nil) rfl rfl rfl rfl rfl) ?_
 refine wq rfl ?_
 refine ED (e' := Eg c c.Mods.length) rfl rfl rfl rfl rfl rfl rfl rfl nofun rfl ?_
 iterate 2 refine AA ?_
 refine AB ?_
 iterate 4 refine wq rfl ?_
 refine CJ ?_
 refine PQ (lC c c.Mods [] 0 rfl (by simpa using h2) h3) (C9.trans (unpr 24011 (sz := 3) (cs := List.map AL c.Mods) rfl rfl) (SH _ _ _ rfl ?_ (fun j v hv => by simp [IX] at hv) rfl ?_)) ?_
 ·show ZK _ (fx c c.Mods.length (td 0 c.Mods)) = TW (fx c c.Mods.length (td 0 c.Mods))
  unfold fx
  rw [uE]
  rfl
 ·exact qR _ _ _ _ (oQ _ c.Mods 0)
 rintro e s ⟨rfl, rfl⟩
 refine AA (AB ?_)
 refine AZ (p := Eg c c.Mods.length) rfl rfl ?_
 refine ED (e' := Eg c c.Mods.length) rfl rfl rfl rfl rfl rfl rfl rfl nofun rfl ?_
 refine BR ?_
 refine ⟨nofun, rfl, rfl, Fz (fun j v hv => ?_) rfl ?_⟩
 ·exact EZ (by omega) (OZ hv)
 ·exact Ee c _ (bV _ _ _ fun j _ h => NM _ _ _ (by omega))
end Go.Gp
end
section
set_option linter.unusedVariables false
namespace Go.Gp
open Go.Vd
def iW (a0 : AR) : Bool := decide (a0.RDN.length ≤ 1000000) && (decide (a0.Mods.length ≤ 900) && a0.Mods.all (fun m => decide (m.Values.length ≤ 1000000)))
def I8 (N : Nat) (a0 : AR) : Option Bool :=
 Option.bind (LW N) fun (x8 : Bool) =>
 bif !x8 then
  some false
 else
  Option.bind (IV N a0) fun (QJ : Bool) =>
  bif !QJ then
   some true
  else
   bif iW a0 then
    Option.bind (OH N a0) fun (UA : AR) =>
    Option.bind (OG N UA a0) fun (x62 : Bool) =>
    bif x62 then
     Option.bind (ML N UA) fun (jH : Bool) =>
     Option.bind (ML N a0) fun (x67 : Bool) =>
     some (jH == x67)
    else
     some false
   else
    none
end Go.Gp
end
section
set_option linter.unusedVariables false
set_option linter.unusedSimpArgs false
set_option maxRecDepth 4000
set_option maxHeartbeats 4000000
namespace Go.Gp
open Go.Vd Go.RowKit Go.Proofs
def w9 : IC := (.seq (.seq (.reg [jm 17 5, ja 18 10 3, jl 19 1 18, jL 20 19, jb .lss 21 17 20]) (.cond (.t 21) .skip (.exit 0))) (.seq (.block 1 (.reg [ja 24 10 3, jl 25 1 24, jm 26 5, jx 27 2 25 26, ja 28 1 27, ⟨none, (.store 1 (.t 28) (.c (.str [115, 112, 111, 105, 108, 116]))), none⟩])) (.reg [jm 22 5, ju .add 23 22 1, jm 5 23])))
def vY : IC := (.seq (.seq (.reg [jm 36 7, ja 37 12 3, jl 38 1 37, jm 39 6, jx 40 3 38 39, ja 41 2 40, jl 42 1 41, jL 43 42, jb .lss 44 36 43]) (.cond (.t 44) .skip (.exit 4))) (.seq (.block 5 (.reg [ja 47 12 3, jl 48 1 47, jm 49 6, jx 50 3 48 49, ja 51 2 50, jl 52 1 51, jm 53 7, jx 54 1 52 53, ⟨none, (.store 1 (.t 54) (.c (.str [115, 112, 111, 105, 108, 116]))), none⟩])) (.reg [jm 45 7, ju .add 46 45 1, jm 7 46])))
def vZ : IC := (.seq (.seq (.reg [jm 29 6, ja 30 12 3, jl 31 1 30, jL 32 31, jb .lss 33 29 32]) (.cond (.t 33) .skip (.exit 2))) (.seq (.block 3 (.seq (.seq (.reg [jc 7 (j6 0)]) (.block 4 (.loop vY))) (.reg [ja 55 12 3, jl 56 1 55, jm 57 6, jx 58 3 56 57, ja 59 1 58, ⟨none, (.store 1 (.t 59) (.c (.str [115, 112, 111, 105, 108, 116]))), none⟩]))) (.reg [jm 34 6, ju .add 35 34 1, jm 6 35])))
def k5 : IC := (.seq (.reg [jn 1 (.box 28 (.t 0)), jc 2 (.bool false)]) (.seq (.seq (.reg [jn 8 (.call 7 []), jn 9 (.un .not (.t 8))]) (.cond (.t 9) (.seq (.reg [jc 2 (.bool false)]) .ret) .skip)) (.seq (.seq (.reg [jg 10 13 1, jn 11 (.call 8 [(.t 10)]), jn 12 (.un .not (.t 11))]) (.cond (.t 12) (.seq (.reg [jc 2 (.bool true)]) .ret) .skip)) (.seq (.regd 6 [jg 13 13 1, jn 14 (.call 15 [(.t 13)]), jg 15 13 1, jn 16 (.call 15 [(.t 15)]), jn 3 (.box 28 (.c (.agg [(j6 0), (j6 0), (j6 0), (j6 0), (j6 0), (j6 0), (j6 0), (j6 0), (j6 0), (j6 0), .nl, (.bool false), .nl]))), jn 4 (.box 28 (.c (.agg [(j6 0), (j6 0), (j6 0), (j6 0), (j6 0), (j6 0), (j6 0), (j6 0), (j6 0), (j6 0), .nl, (.bool false), .nl]))), js 13 3 14, js 13 4 16]) (.seq (.seq (.reg [jc 5 (j6 0)]) (.block 0 (.loop w9))) (.seq (.seq (.reg [jc 6 (j6 0)]) (.block 2 (.loop vZ))) (.seq (.regd 11 [jg 60 13 4, jg 61 13 1, jn 62 (.call 12 [(.t 60), (.t 61)]), jm 63 62, jt 63 64 (.load 13 true (.t 4)), jt 63 65 (.call 10 [(.t 64)]), jt 63 66 (.load 13 true (.t 1)), jt 63 67 (.call 10 [(.t 66)]), jt 63 68 (.beq false (.t 65) (.t 67)), jp 69 63 68, jm 2 69]) .ret)))))))
theorem k5_cf : BV Tryz.prog Tryz.f5 = some ⟨70, k5, [(.tmp 2)]⟩ := by kernel_rfl
abbrev oV : List UInt8 := [115, 112, 111, 105, 108, 116]
abbrev fy (c b : AR) (r : List AU) (l : List (Nat × Bool × AY)) : List (Nat × Row) := [(8001, ⟨13, false, [AJ c]⟩), (8003, ⟨13, false, [Eg c c.Mods.length]⟩), (8004, ⟨13, false, [AJ b]⟩), (24007, ⟨2, true, List.map AV r⟩), (24011, ⟨3, false, List.map fA l⟩)]
theorem fy_tk (c b : AR) (r : List AU) (l : List (Nat × Bool × AY)) (vs : List (List (List UInt8))) (h : PV.tks (fun t => (SV vs (fy c b r l) t).isSome) (List.map fA l) = true) : IK (fun t => (SV vs (fy c b r l) t).isSome) ((fy c b r l).map (·.2)) = true := by
 show (_ && (_ && (_ && (_ && ((false || PV.tks (fun t => (SV vs (fy c b r l) t).isSome) (List.map fA l)) && true))))) = true
 rw [h]; rfl
theorem XO (c b : AR) (r : List AU) (ms : List AY) : IK (fun t => (SV (IX ms) (fy c b r (dn 0 ms)) t).isSome) ((fy c b r (dn 0 ms)).map (·.2)) = true :=
 fy_tk _ _ _ _ _ (bV _ _ _ fun j _ h => NM _ _ _ (by omega))
abbrev Dg : List (Nat × PV) := [(1, .ptr 8001 0 0), (3, .ptr 8003 0 0), (4, .ptr 8004 0 0)]
abbrev ST (s : List (Nat × PV)) (c b : AR) (r : List AU) (ms : List AY) : St := ⟨AX s, SV (IX ms) (fy c b r (dn 0 ms))⟩
theorem iY : ∀ (l : List AY) (k j : Nat) (m : AY), l[j]? = some m → (dn k l)[j]? = some (k + j, true, m)
 | x :: l, k, 0, m, h => by
  rw [List.getElem?_cons_zero] at h
  cases h; rfl
 | x :: l, k, j + 1, m, h => by
  rw [List.getElem?_cons_succ] at h
  rw [dn, List.getElem?_cons_succ, iY l (k + 1) j m h, show k + 1 + j = k + (j + 1) by omega]
 | [], _, _, _, h => by cases h
theorem y9 : ∀ (l : List AY) (k j : Nat) (m : AY), (dn k l).set j (k + j, true, m) = dn k (l.set j m)
 | [], _, _, _ => rfl
 | x :: l, k, 0, m => rfl
 | x :: l, k, j + 1, m => by
  rw [dn, List.set_cons_succ, List.set_cons_succ, dn, ← y9 l (k + 1) j m, show k + (j + 1) = k + 1 + j by omega]
theorem qW : ∀ (l : List AY) (k j : Nat) (m : AY) (v : List (List UInt8)), l[j]? = some m → v.length = m.Values.length → List.map fA (dn k (l.set j ⟨m.Kind, m.Attr, v⟩)) = List.map fA (dn k l)
 | x :: l, k, 0, m, v, h, hv => by
  rw [List.getElem?_cons_zero] at h
  cases h
  rw [List.set_cons_zero, dn, dn, List.map_cons, List.map_cons]
  congr 1
  show PV.agg [_, _, .slr (24100 + k) 0 v.length] = PV.agg [_, _, .slr (24100 + k) 0 x.Values.length]
  rw [hv]
 | x :: l, k, j + 1, m, v, h, hv => by
  rw [List.getElem?_cons_succ] at h
  rw [List.set_cons_succ, dn, dn, List.map_cons, List.map_cons, qW l (k + 1) j m v h hv]
 | [], _, _, _, _, h, _ => by cases h
theorem eG {ms : List AY} {i : Nat} {m : AY} (h : ms[i]? = some m) : (IX ms)[i]? = some m.Values := by unfold IX; rw [List.getElem?_map, h]; rfl
theorem l5 {α : Type} {a b c d e a' b' c' d' e' : α} (h1 : a = a') (h2 : b = b') (h3 : c = c') (h4 : d = d') (h5 : e = e') : [a, b, c, d, e] = [a', b', c', d', e'] := by rw [h1, h2, h3, h4, h5]
theorem Kv (c b : AR) (ms : List AY) : ∀ (k j : Nat) (i : Int) (r : List AU), i = (j : Int) → j + k = c.RDN.length → r.length = c.RDN.length → r.length ≤ 1000000 →
  WX Tryz.prog (fun _ => false) (.loop w9) (ST (Dg ++ [(5, .int .i64 i)]) c b r ms) (fun e s => e = .exit 0 ∧ ∃ r', r'.length = c.RDN.length ∧ s = ST Dg c b r' ms) := by
 intro k
 induction k with
 | zero =>
  intro j i r hi hj hr hl
  refine gM ?_
  refine AA (AA (AB ?_))
  iterate 4 refine wq rfl ?_
  refine wq rfl ?_
  refine xcF rfl (show decide (i < (c.RDN.length : Int)) = false by rw [hi]; simp; omega) ?_
  refine D9 (st1 := ST Dg c b r ms) (SH _ _ _ rfl rfl (fun j v hv => OZ hv) rfl (XO _ _ _ _)) ⟨nofun, rfl, r, hr, rfl⟩
 | succ k ih =>
  intro j i r hi hj hr hl
  have hjl : j < r.length := by omega
  have hchk : NF i c.RDN.length = some j := by rw [hi]; exact UV (by omega)
  refine gL ?_
  refine AA (AA (AB ?_))
  iterate 5 refine wq rfl ?_
  refine Dr rfl (show decide (i < (c.RDN.length : Int)) = true by rw [hi]; simp; omega) ?_
  refine BH (AA (CJ (AB ?_)))
  iterate 3 refine wq rfl ?_
  refine AZ rfl (KF hchk rfl rfl rfl rfl) ?_
  refine wq rfl ?_
  refine jK (f := AV) (l := r) (e := r[j]) (e' := ⟨(r[j]).Attr, oV⟩) (List.getElem?_eq_getElem hjl) rfl rfl rfl rfl rfl rfl rfl rfl (fun _ => rfl) rfl ?_
  refine AB ?_
  refine wq rfl ?_
  refine AZ (p := .int .i64 (BX (i + (1 : Int)))) rfl rfl ?_
  refine wq rfl ?_
  refine ⟨rfl, ?_⟩
  have hi2 := ih (j + 1) (BX (i + 1)) (r.set j ⟨(r[j]).Attr, oV⟩) (by rw [hi]; exact JG (by omega)) (by omega) (by simpa using hr) (by simpa using hl)
  exact NH (SH _ _ _ rfl rfl (fun j v hv => EZ (by omega) (OZ hv)) rfl (XO _ _ _ _)) hi2
theorem set_self {α : Type} : ∀ (l : List α) (j : Nat) (x : α), l[j]? = some x → l.set j x = l
 | y :: l, 0, x, h => by rw [List.getElem?_cons_zero] at h; cases h; rfl
 | y :: l, j + 1, x, h => by rw [List.getElem?_cons_succ] at h; rw [List.set_cons_succ, set_self l j x h]
 | [], _, _, h => by cases h
theorem eF (ms : List AY) (x : Nat) (m : AY) : IX (ms.set x m) = (IX ms).set x m.Values := by unfold IX; rw [List.map_set]
theorem Ku (c b : AR) (r : List AU) (i : Int) (x : Nat) (hi : i = (x : Int)) (hx : x < c.Mods.length) : ∀ (k j : Nat) (q : Int) (ms : List AY) (m : AY), ms[x]? = some m → q = (j : Int) → j + k = m.Values.length → ms.length = c.Mods.length → (∀ m ∈ ms, m.Values.length ≤ 1000000) →
  WX Tryz.prog (fun _ => false) (.loop vY) (ST (Dg ++ [(6, .int .i64 i), (7, .int .i64 q)]) c b r ms) (fun e s => e = .exit 4 ∧ ∃ ms' : List AY, ms'.length = c.Mods.length ∧ (∀ m ∈ ms', m.Values.length ≤ 1000000) ∧ s = ST (Dg ++ [(6, .int .i64 i)]) c b r ms') := by
 have hchk : NF i c.Mods.length = some x := by rw [hi]; exact UV hx
 intro k
 induction k with
 | zero =>
  intro j q ms m hm hq hj hl hb
  have hget : (dn 0 ms)[x]? = some (x, true, m) := by have := iY ms 0 x m hm; rwa [Nat.zero_add] at this
  refine gM ?_
  refine AA (AA (AB ?_))
  iterate 4 refine wq rfl ?_
  refine AZ rfl (KF hchk rfl rfl rfl rfl) ?_
  refine wq rfl ?_
  refine AZ rfl (Q4 (f := fA) (l := dn 0 ms) (e := (x, true, m)) (v := .slr (24100 + x) 0 m.Values.length) hget rfl rfl rfl) ?_
  iterate 2 refine wq rfl ?_
  refine xcF rfl (show decide (q < (m.Values.length : Int)) = false by rw [hq]; simp; omega) ?_
  exact D9 (st1 := ST (Dg ++ [(6, .int .i64 i)]) c b r ms) (SH _ _ _ rfl rfl (fun j v hv => OZ hv) rfl (XO _ _ _ _)) ⟨nofun, rfl, ms, hl, hb, rfl⟩
 | succ k ih =>
  intro j q ms m hm hq hj hl hb
  have hget : (dn 0 ms)[x]? = some (x, true, m) := by have := iY ms 0 x m hm; rwa [Nat.zero_add] at this
  have hjl : j < m.Values.length := by omega
  have hbm := hb m (List.mem_of_getElem? hm)
  have hchk2 : NF q m.Values.length = some j := by rw [hq]; exact UV hjl
  have hv := eG hm
  refine gL ?_
  refine AA (AA (AB ?_))
  iterate 4 refine wq rfl ?_
  refine AZ rfl (KF hchk rfl rfl rfl rfl) ?_
  refine wq rfl ?_
  refine AZ rfl (Q4 (f := fA) (l := dn 0 ms) (e := (x, true, m)) (v := .slr (24100 + x) 0 m.Values.length) hget rfl rfl rfl) ?_
  iterate 2 refine wq rfl ?_
  refine Dr rfl (show decide (q < (m.Values.length : Int)) = true by rw [hq]; simp; omega) ?_
  refine BH (AA (CJ (AB ?_)))
  iterate 3 refine wq rfl ?_
  refine AZ rfl (KF hchk rfl rfl rfl rfl) ?_
  refine wq rfl ?_
  refine AZ rfl (Q4 (f := fA) (l := dn 0 ms) (e := (x, true, m)) (v := .slr (24100 + x) 0 m.Values.length) hget rfl rfl rfl) ?_
  refine wq rfl ?_
  refine AZ rfl (KF hchk2 rfl rfl (OZ hv) rfl) ?_
  refine jK (f := PV.str) (l := m.Values) (e := (m.Values)[j]) (e' := oV) (List.getElem?_eq_getElem hjl) rfl rfl (OZ hv) rfl rfl rfl rfl rfl (fun _ => rfl) rfl ?_
  refine AB ?_
  refine wq rfl ?_
  refine AZ (p := .int .i64 (BX (q + (1 : Int)))) rfl rfl ?_
  refine wq rfl ?_
  refine ⟨rfl, ?_⟩
  have hms : (ms.set x ⟨m.Kind, m.Attr, (m.Values).set j oV⟩)[x]? = some ⟨m.Kind, m.Attr, (m.Values).set j oV⟩ := by
   rw [List.getElem?_set_self (by omega)]
  have hi2 := ih (j + 1) (BX (q + 1)) (ms.set x ⟨m.Kind, m.Attr, (m.Values).set j oV⟩) ⟨m.Kind, m.Attr, (m.Values).set j oV⟩ hms (by rw [hq]; exact JG (by omega)) (by simp only [List.length_set]; omega) (by simpa using hl) (fun m' hm' => by
   rcases List.mem_or_eq_of_mem_set hm' with h | rfl
   ·exact hb m' h
   ·simp only [List.length_set]; exact hbm)
  refine NH (SH _ _ _ rfl ?_ (fun t v ht => ?_) rfl (XO _ _ _ _)) hi2
  ·refine l5 (EZ (by omega) rfl) (EZ (by omega) rfl) (EZ (by omega) rfl) (EZ (by omega) rfl) (EZ (by omega) ?_)
   show _ = some (⟨3, false, List.map fA (dn 0 (ms.set x ⟨m.Kind, m.Attr, (m.Values).set j oV⟩))⟩ : Row)
   rw [qW ms 0 x m ((m.Values).set j oV) hm (by simp)]
   rfl
  ·rw [eF] at ht
   by_cases htx : t = x
   ·subst htx
    rw [List.getElem?_set_self (by rw [RS]; omega)] at ht
    cases ht
    exact upd_same _ _ _
   ·rw [List.getElem?_set_ne (fun e => htx e.symm)] at ht
    exact EZ (by omega) (OZ ht)
theorem Kw (c b : AR) (r : List AU) (hn : c.Mods.length ≤ 900) : ∀ (k x : Nat) (i : Int) (ms : List AY), i = (x : Int) → x + k = c.Mods.length → ms.length = c.Mods.length → (∀ m ∈ ms, m.Values.length ≤ 1000000) →
  WX Tryz.prog (fun _ => false) (.loop vZ) (ST (Dg ++ [(6, .int .i64 i)]) c b r ms) (fun e s => e = .exit 2 ∧ ∃ ms' : List AY, s = ST Dg c b r ms') := by
 intro k
 induction k with
 | zero =>
  intro x i ms hi hx hl hb
  refine gM ?_
  refine AA (AA (AB ?_))
  iterate 5 refine wq rfl ?_
  refine xcF rfl (show decide (i < (c.Mods.length : Int)) = false by rw [hi]; simp; omega) ?_
  exact D9 (st1 := ST Dg c b r ms) (SH _ _ _ rfl rfl (fun j v hv => OZ hv) rfl (XO _ _ _ _)) ⟨nofun, rfl, ms, rfl⟩
 | succ k ih =>
  intro x i ms hi hx hl hb
  have hxl : x < c.Mods.length := by omega
  have hchk : NF i c.Mods.length = some x := by rw [hi]; exact UV hxl
  refine gL ?_
  refine AA (AA (AB ?_))
  iterate 5 refine wq rfl ?_
  refine Dr rfl (show decide (i < (c.Mods.length : Int)) = true by rw [hi]; simp; omega) ?_
  refine BH (AA (CJ (AA (AA (AB ?_)))))
  refine wq rfl ?_
  refine CJ ?_
  refine PQ (Ku c b r i x hi hxl (ms[x]'(by omega)).Values.length 0 0 ms (ms[x]'(by omega)) (List.getElem?_eq_getElem (by omega)) rfl (by omega) hl hb) (SH _ _ _ rfl rfl (fun j v hv => OZ hv) rfl (XO _ _ _ _)) ?_
  rintro e s ⟨rfl, ms', hl', hb', rfl⟩
  have hget' : ms'[x]? = some (ms'[x]'(by omega)) := List.getElem?_eq_getElem (by omega)
  have hget : (dn 0 ms')[x]? = some (x, true, ms'[x]'(by omega)) := by have := iY ms' 0 x _ hget'; rwa [Nat.zero_add] at this
  generalize (ms'[x]'(by omega)) = m at hget hget'
  refine AB ?_
  iterate 3 refine wq rfl ?_
  refine AZ rfl (KF hchk rfl rfl rfl rfl) ?_
  refine wq rfl ?_
  refine jK (f := fA) (l := dn 0 ms') (e := (x, true, m)) (e' := (x, true, ⟨m.Kind, oV, m.Values⟩)) hget rfl rfl rfl rfl rfl rfl rfl rfl nofun rfl ?_
  have hset : (dn 0 ms').set x (x, true, ⟨m.Kind, oV, m.Values⟩) = dn 0 (ms'.set x ⟨m.Kind, oV, m.Values⟩) := by
   have := y9 ms' 0 x ⟨m.Kind, oV, m.Values⟩
   rwa [Nat.zero_add] at this
  rw [hset]
  refine AB ?_
  refine wq rfl ?_
  refine AZ (p := .int .i64 (BX (i + (1 : Int)))) rfl rfl ?_
  refine wq rfl ?_
  refine ⟨rfl, ?_⟩
  have hi2 := ih (x + 1) (BX (i + 1)) (ms'.set x ⟨m.Kind, oV, m.Values⟩) (by rw [hi]; exact JG (by omega)) (by omega) (by simpa using hl') (fun m' hm' => by
   rcases List.mem_or_eq_of_mem_set hm' with h | rfl
   ·exact hb' m' h
   ·exact hb' m (List.mem_of_getElem? hget'))
  refine NH (SH _ _ _ rfl rfl (fun t v ht => ?_) rfl (XO _ _ _ _)) hi2
  rw [eF, set_self _ _ _ (eG hget')] at ht
  exact EZ (by omega) (OZ ht)
def k24 : IC := (.seq (.reg [jn 1 (.box 23 (.t 0)), jc 2 (.bool false)]) (.seq (.reg [ja 3 0 1, jl 4 1 3, ju .geq 5 4 0, jm 6 5, jt 6 7 (.fda 0 (.t 1)), jt 6 8 (.load 1 false (.t 7)), jt 6 9 (.bin .leq (.t 8) (ji 1099511627776)), jp 10 6 9, jm 11 10, jt 11 12 (.fda 1 (.t 1)), jt 11 13 (.load 1 false (.t 12)), jt 11 14 (.bin .geq (.t 13) (ji 0)), jp 15 11 14, jm 16 15, jt 16 17 (.fda 1 (.t 1)), jt 16 18 (.load 1 false (.t 17)), jt 16 19 (.bin .leq (.t 18) (ji 65535)), jp 20 16 19, jm 21 20, jt 21 22 (.fda 2 (.t 1)), jt 21 23 (.load 1 false (.t 22)), jt 21 24 (.bin .geq (.t 23) (ji 0)), jp 25 21 24, jm 26 25, jt 26 27 (.fda 2 (.t 1)), jt 26 28 (.load 1 false (.t 27)), jt 26 29 (.bin .lss (.t 28) (ji 6)), jp 30 26 29, jm 2 30]) .ret))
theorem Jd : BV Tryz.prog Tryz.f24 = some ⟨31, k24, [(.tmp 2)]⟩ := by kernel_rfl
theorem TK (N : Nat) (a0 : AQ) (r : Bool) (h : WP N a0 = some r) : Sat Tryz.prog 24 AC [GH a0] (.bool r) AC := by
 refine EL mixed Tryz.func24 Jd (rs := [.bool r]) rfl rfl ?_
 refine AA (AB ?_)
 refine CW rfl (F8 38401 rfl rfl rfl rfl rfl) ?_
 refine wq rfl ?_
 obtain ⟨g1, hg1, h⟩ := AP h
 refine GZ ⟨AX [(2, .bool g1)], AX []⟩ ?_ ?_
 have h := hg1
 refine AB ?_
 iterate 4 refine wq rfl ?_
 rcases CY h with ⟨c2, h⟩ | ⟨c2, h⟩
 iterate 3 refine AZ (gy rfl c2) rfl ?_
 refine AZ rfl (BG c2 rfl rfl) ?_
 refine wq rfl ?_
 rcases CY h with ⟨c3, h⟩ | ⟨c3, h⟩
 iterate 3 refine AZ (gy rfl c3) rfl ?_
 refine AZ rfl (BG c3 rfl rfl) ?_
 refine wq rfl ?_
 rcases CY h with ⟨c4, h⟩ | ⟨c4, h⟩
 iterate 3 refine AZ (gy rfl c4) rfl ?_
 refine AZ rfl (BG c4 rfl rfl) ?_
 refine wq rfl ?_
 rcases CY h with ⟨c5, h⟩ | ⟨c5, h⟩
 iterate 3 refine AZ (gy rfl c5) rfl ?_
 refine AZ rfl (BG c5 rfl rfl) ?_
 refine wq rfl ?_
 rcases CY h with ⟨c6, h⟩ | ⟨c6, h⟩
 iterate 3 refine AZ (gy rfl c6) rfl ?_
 refine AZ rfl (BG c6 rfl rfl) ?_
 refine wq rfl ?_
 cases AO h
 exact cq rfl
 iterate 3 refine D7 (gn rfl c6) ?_
 refine AZ rfl (BD c6 rfl rfl) ?_
 refine wq rfl ?_
 obtain rfl := AO h
 exact cq rfl
 iterate 3 refine D7 (gn rfl c5) ?_
 refine AZ rfl (BD c5 rfl rfl) ?_
 refine wq rfl ?_
 iterate 3 refine D7 rfl ?_
 iterate 2 refine wq rfl ?_
 obtain rfl := AO h
 exact cq rfl
 iterate 3 refine D7 (gn rfl c4) ?_
 refine AZ rfl (BD c4 rfl rfl) ?_
 refine wq rfl ?_
 iterate 3 refine D7 rfl ?_
 iterate 2 refine wq rfl ?_
 iterate 3 refine D7 rfl ?_
 iterate 2 refine wq rfl ?_
 obtain rfl := AO h
 exact cq rfl
 iterate 3 refine D7 (gn rfl c3) ?_
 refine AZ rfl (BD c3 rfl rfl) ?_
 refine wq rfl ?_
 iterate 3 refine D7 rfl ?_
 iterate 2 refine wq rfl ?_
 iterate 3 refine D7 rfl ?_
 iterate 2 refine wq rfl ?_
 iterate 3 refine D7 rfl ?_
 iterate 2 refine wq rfl ?_
 obtain rfl := AO h
 exact cq rfl
 iterate 3 refine D7 (gn rfl c2) ?_
 refine AZ rfl (BD c2 rfl rfl) ?_
 refine wq rfl ?_
 iterate 3 refine D7 rfl ?_
 iterate 2 refine wq rfl ?_
 iterate 3 refine D7 rfl ?_
 iterate 2 refine wq rfl ?_
 iterate 3 refine D7 rfl ?_
 iterate 2 refine wq rfl ?_
 iterate 3 refine D7 rfl ?_
 iterate 2 refine wq rfl ?_
 obtain rfl := AO h
 exact cq rfl
 clear hg1
 obtain rfl := AO h
 refine BR ?_
 exact ⟨nofun, rfl, rfl⟩
def k25 : IC := (.seq (.reg [jn 1 (.box 23 (.t 0)), jc 2 (.bool false)]) (.seq (.reg [jg 3 3 1, jn 4 (.build [(j6 0), (j6 0), (j6 0)] []), jn 5 (.eqs false [(.i .i64), (.i .i64), (.i .i64)] (.t 3) (.t 4)), jm 2 5]) .ret))
theorem Jc : BV Tryz.prog Tryz.f25 = some ⟨6, k25, [(.tmp 2)]⟩ := by kernel_rfl
theorem PE (N : Nat) (a0 : AQ) (r : Bool) (h : Q9 N a0 = some r) : Sat Tryz.prog 25 AC [GH a0] (.bool r) AC := by
 refine EL mixed Tryz.func25 Jc (rs := [.bool r]) rfl rfl ?_
 refine AA (AB ?_)
 refine CW rfl (F8 40001 rfl rfl rfl rfl rfl) ?_
 refine wq rfl ?_
 refine AA (AB ?_)
 refine AZ (p := GH a0) rfl rfl ?_
 refine AZ (p := .agg [j6 0, j6 0, j6 0]) rfl rfl ?_
 refine AZ (p := .bool (a0.Time == (0 : Int) && (a0.Seq == (0 : Int) && (a0.Rep == (0 : Int) && true)))) rfl rfl ?_
 refine wq rfl ?_
 cases AO h
 refine BR ?_
 exact ⟨nofun, rfl, rfl⟩
def k72 : IC := (.seq (.reg [jc 2 (.bool false)]) (.seq (.reg [jm 3 0, jm 4 0, jb .neq 5 3 4, jm 2 5]) .ret))
theorem Hf : BV Tryz.prog Tryz.f72 = some ⟨6, k72, [(.tmp 2)]⟩ := by kernel_rfl
theorem OX (N : Nat) (a0 : Int) (r : Bool) (h : LH N a0 = some r) : Sat Tryz.prog 72 AC [j6 a0] (.bool r) AC := by
 refine EL mixed Tryz.func72 Hf (rs := [.bool r]) rfl rfl ?_
 refine AA (AB ?_)
 refine wq rfl ?_
 refine AA (AB ?_)
 iterate 4 refine wq rfl ?_
 cases AO h
 refine BR ?_
 exact ⟨nofun, rfl, rfl⟩
def k52 : IC := (.seq (.reg [jc 4 (j6 0)]) (.seq (.reg [jm 7 0, jn 8 (.call 72 [(.t 7)]), jm 5 8]) (.seq (.reg [jm 9 1, jn 10 (.call 72 [(.t 9)]), jm 6 10]) (.seq (.seq (.reg [jm 11 5]) (.cond (.t 11) (.seq (.seq (.reg [jm 12 6]) (.cond (.t 12) (.seq (.reg [jc 4 (j6 0)]) .ret) .skip)) (.seq (.reg [jc 4 (j6 (-1))]) .ret)) .skip)) (.seq (.seq (.reg [jm 13 6]) (.cond (.t 13) (.seq (.reg [jc 4 (j6 1)]) .ret) .skip)) (.seq (.seq (.reg [jm 14 0, jm 15 1, jb .lss 16 14 15]) (.cond (.t 16) (.seq (.reg [jc 4 (j6 (-1))]) .ret) .skip)) (.seq (.seq (.reg [jm 17 0, jm 18 1, jb .gtr 19 17 18]) (.cond (.t 19) (.seq (.reg [jc 4 (j6 1)]) .ret) .skip)) (.seq (.reg [jc 4 (j6 0)]) .ret))))))))
theorem Ic : BV Tryz.prog Tryz.f52 = some ⟨20, k52, [(.tmp 4)]⟩ := by kernel_rfl
theorem UD (N : Nat) (a0 : Int) (a1 : Int) (r : Int) (h : JU N a0 a1 = some r) : Sat Tryz.prog 52 AC [j6 a0, j6 a1] (j6 r) AC := by
 refine EL mixed Tryz.func52 Ic (rs := [j6 r]) rfl rfl ?_
 refine AA (AB ?_)
 refine wq rfl ?_
 refine AA (AB ?_)
 refine wq rfl ?_
 obtain ⟨x8, Ci, h⟩ := AP h
 refine CW rfl (CX (OX N _ _ Ci) rfl (.cons A9 .nil) rfl rfl rfl) ?_
 refine wq rfl ?_
 refine AA (AB ?_)
 refine wq rfl ?_
 obtain ⟨P5, TR, h⟩ := AP h
 refine CW rfl (CX (OX N _ _ TR) rfl (.cons A9 .nil) rfl rfl rfl) ?_
 refine wq rfl ?_
 iterate 2 refine AA ?_
 refine AB ?_
 refine wq rfl ?_
 refine EP h rfl (fun c1 h => ?_) (fun c1 h => ?_)
 iterate 2 refine AA ?_
 refine AB ?_
 refine wq rfl ?_
 refine EP h rfl (fun c2 h => ?_) (fun c2 h => ?_)
 refine AA (AB ?_)
 refine wq rfl ?_
 obtain rfl := AO h
 refine BR ?_
 exact ⟨nofun, rfl, rfl⟩
 refine BH (AA (AB ?_))
 refine wq rfl ?_
 cases AO h
 refine BR ?_
 exact ⟨nofun, rfl, rfl⟩
 refine BH ?_
 iterate 2 refine AA ?_
 refine AB ?_
 refine wq rfl ?_
 refine EP h rfl (fun c3 h => ?_) (fun c3 h => ?_)
 refine AA (AB ?_)
 refine wq rfl ?_
 obtain rfl := AO h
 refine BR ?_
 exact ⟨nofun, rfl, rfl⟩
 refine BH ?_
 iterate 2 refine AA ?_
 refine AB ?_
 iterate 3 refine wq rfl ?_
 refine EP h rfl (fun c4 h => ?_) (fun c4 h => ?_)
 refine AA (AB ?_)
 refine wq rfl ?_
 cases AO h
 refine BR ?_
 exact ⟨nofun, rfl, rfl⟩
 refine BH ?_
 iterate 2 refine AA ?_
 refine AB ?_
 iterate 3 refine wq rfl ?_
 refine EP h rfl (fun c5 h => ?_) (fun c5 h => ?_)
 refine AA (AB ?_)
 refine wq rfl ?_
 obtain rfl := AO h
 refine BR ?_
 exact ⟨nofun, rfl, rfl⟩
 refine BH (AA (AB ?_))
 refine wq rfl ?_
 obtain rfl := AO h
 refine BR ?_
 exact ⟨nofun, rfl, rfl⟩
def k73 : IC := (.seq (.reg [jc 2 (.bool false)]) (.seq (.reg [jm 3 0, jm 4 0, jb .neq 5 3 4, jm 2 5]) .ret))
theorem He : BV Tryz.prog Tryz.f73 = some ⟨6, k73, [(.tmp 2)]⟩ := by kernel_rfl
theorem QT (N : Nat) (a0 : Int) (r : Bool) (h : cmp_isNaN_int N a0 = some r) : Sat Tryz.prog 73 AC [j6 a0] (.bool r) AC := by
 refine EL mixed Tryz.func73 He (rs := [.bool r]) rfl rfl ?_
 refine AA (AB ?_)
 refine wq rfl ?_
 refine AA (AB ?_)
 iterate 4 refine wq rfl ?_
 cases AO h
 refine BR ?_
 exact ⟨nofun, rfl, rfl⟩
def k53 : IC := (.seq (.reg [jc 4 (j6 0)]) (.seq (.reg [jm 7 0, jn 8 (.call 73 [(.t 7)]), jm 5 8]) (.seq (.reg [jm 9 1, jn 10 (.call 73 [(.t 9)]), jm 6 10]) (.seq (.seq (.reg [jm 11 5]) (.cond (.t 11) (.seq (.seq (.reg [jm 12 6]) (.cond (.t 12) (.seq (.reg [jc 4 (j6 0)]) .ret) .skip)) (.seq (.reg [jc 4 (j6 (-1))]) .ret)) .skip)) (.seq (.seq (.reg [jm 13 6]) (.cond (.t 13) (.seq (.reg [jc 4 (j6 1)]) .ret) .skip)) (.seq (.seq (.reg [jm 14 0, jm 15 1, jb .lss 16 14 15]) (.cond (.t 16) (.seq (.reg [jc 4 (j6 (-1))]) .ret) .skip)) (.seq (.seq (.reg [jm 17 0, jm 18 1, jb .gtr 19 17 18]) (.cond (.t 19) (.seq (.reg [jc 4 (j6 1)]) .ret) .skip)) (.seq (.reg [jc 4 (j6 0)]) .ret))))))))
theorem Ib : BV Tryz.prog Tryz.f53 = some ⟨20, k53, [(.tmp 4)]⟩ := by kernel_rfl
theorem OY (N : Nat) (a0 : Int) (a1 : Int) (r : Int) (h : cmp_Compare_int N a0 a1 = some r) : Sat Tryz.prog 53 AC [j6 a0, j6 a1] (j6 r) AC := by
 refine EL mixed Tryz.func53 Ib (rs := [j6 r]) rfl rfl ?_
 refine AA (AB ?_)
 refine wq rfl ?_
 refine AA (AB ?_)
 refine wq rfl ?_
 obtain ⟨x8, Ci, h⟩ := AP h
 refine CW rfl (CX (QT N _ _ Ci) rfl (.cons A9 .nil) rfl rfl rfl) ?_
 refine wq rfl ?_
 refine AA (AB ?_)
 refine wq rfl ?_
 obtain ⟨P5, TR, h⟩ := AP h
 refine CW rfl (CX (QT N _ _ TR) rfl (.cons A9 .nil) rfl rfl rfl) ?_
 refine wq rfl ?_
 iterate 2 refine AA ?_
 refine AB ?_
 refine wq rfl ?_
 refine EP h rfl (fun c1 h => ?_) (fun c1 h => ?_)
 iterate 2 refine AA ?_
 refine AB ?_
 refine wq rfl ?_
 refine EP h rfl (fun c2 h => ?_) (fun c2 h => ?_)
 refine AA (AB ?_)
 refine wq rfl ?_
 obtain rfl := AO h
 refine BR ?_
 exact ⟨nofun, rfl, rfl⟩
 refine BH (AA (AB ?_))
 refine wq rfl ?_
 cases AO h
 refine BR ?_
 exact ⟨nofun, rfl, rfl⟩
 refine BH ?_
 iterate 2 refine AA ?_
 refine AB ?_
 refine wq rfl ?_
 refine EP h rfl (fun c3 h => ?_) (fun c3 h => ?_)
 refine AA (AB ?_)
 refine wq rfl ?_
 obtain rfl := AO h
 refine BR ?_
 exact ⟨nofun, rfl, rfl⟩
 refine BH ?_
 iterate 2 refine AA ?_
 refine AB ?_
 iterate 3 refine wq rfl ?_
 refine EP h rfl (fun c4 h => ?_) (fun c4 h => ?_)
 refine AA (AB ?_)
 refine wq rfl ?_
 cases AO h
 refine BR ?_
 exact ⟨nofun, rfl, rfl⟩
 refine BH ?_
 iterate 2 refine AA ?_
 refine AB ?_
 iterate 3 refine wq rfl ?_
 refine EP h rfl (fun c5 h => ?_) (fun c5 h => ?_)
 refine AA (AB ?_)
 refine wq rfl ?_
 obtain rfl := AO h
 refine BR ?_
 exact ⟨nofun, rfl, rfl⟩
 refine BH (AA (AB ?_))
 refine wq rfl ?_
 obtain rfl := AO h
 refine BR ?_
 exact ⟨nofun, rfl, rfl⟩
def wD : IC := (.seq (.reg [jb .lss 9 8 7]) (.seq (.cond (.t 9) .skip (.exit 0)) (.seq (.block 1 (.seq (.reg [jx 10 1 6 8, jl 11 1 10, jm 5 11]) (.seq (.reg [jm 12 5, jm 13 3, jb .neq 14 12 13]) (.cond (.t 14) (.seq (.reg [jm 15 5, jm 2 15]) .ret) .skip)))) (.reg [ju .add 16 8 1, jm 8 16]))))
def k51 : IC := (.seq (.reg [jc 2 (j6 0)]) (.seq (.reg [jc 3 (j6 0)]) (.seq (.seq (.reg [jm 6 0, jL 7 6, jc 8 (j6 0)]) (.block 0 (.loop wD))) (.seq (.reg [jm 17 3, jm 2 17]) .ret))))
theorem Ie : BV Tryz.prog Tryz.f51 = some ⟨18, k51, [(.tmp 2)]⟩ := by kernel_rfl
theorem ZJ (N : Nat) (a0 : List Int) : ∀ (n : Nat) (x : Int) (y : Unit ⊕ Int), LC N a0 n x = some y → WX Tryz.prog (fun _ => false) (.loop wD) ((fun (x : Int) => ⟨AX [(3, j6 0), (6, .sl 1 (List.map ei a0)), (7, j6 (a0.length : Int)), (8, j6 x)], AX []⟩) x) ((Sum.elim (fun y e s => e = .exit 0 ∧ s = ⟨AX [(3, j6 0)], AX []⟩) (fun y e s => e = .ret ∧ s = ⟨AX [(2, j6 y)], AX []⟩) : (Unit ⊕ Int) → Xt → St → Prop) y) := by
 refine F5 _ _ (LC N a0) (OT N a0) (fun _ => rfl) (fun _ _ => rfl) ?_
 rintro rec v8l8 y h
 refine AA (AB ?_)
 refine wq rfl ?_
 refine AA ?_
 refine EP h rfl (fun c1 h => ?_) (fun c1 h => ?_)
 refine BH (AA (CJ (AA (AB ?_))))
 obtain ⟨P5, TR, h⟩ := AP h
 refine AZ rfl (EU (cs := [j6 P5]) TR rfl rfl rfl) ?_
 iterate 2 refine wq rfl ?_
 refine AA (AB ?_)
 iterate 3 refine wq rfl ?_
 refine EP h rfl (fun c2 h => ?_) (fun c2 h => ?_)
 refine AA (AB ?_)
 iterate 2 refine wq rfl ?_
 obtain rfl := AO h
 exact EX (st1 := ⟨AX [(2, j6 P5)], AX []⟩) (cq rfl) ⟨rfl, rfl⟩
 refine BH (AB ?_)
 refine AZ (p := j6 (BX (v8l8 + (1 : Int)))) rfl rfl ?_
 refine wq rfl ?_
 exact ⟨(BX (v8l8 + (1 : Int))), (cq rfl), h⟩
 cases AO h
 exact D9 (st1 := ⟨AX [(3, j6 0)], AX []⟩) (cq rfl) ⟨rfl, rfl⟩
theorem aR (N : Nat) (a0 : List Int) (r : Int) (h : TS N a0 = some r) : Sat Tryz.prog 51 AC [.sl 1 (List.map ei a0)] (j6 r) AC := by
 refine EL mixed Tryz.func51 Ie (rs := [j6 r]) rfl rfl ?_
 refine AA (AB ?_)
 refine wq rfl ?_
 refine AA (AB ?_)
 refine wq rfl ?_
 iterate 2 refine AA ?_
 refine AB ?_
 refine wq rfl ?_
 refine AZ rfl (CO rfl) ?_
 refine wq rfl ?_
 refine CJ ?_
 obtain ⟨y3, hy3, h⟩ := AP h
 refine PQ (ZJ N a0 N _ _ hy3) (cq rfl) ?_
 clear hy3
 rcases y3 with y3 | y3
 rintro e s ⟨rfl, rfl⟩
 refine AA (AB ?_)
 iterate 2 refine wq rfl ?_
 obtain rfl := AO h
 refine BR ?_
 exact ⟨nofun, rfl, rfl⟩
 rintro e s ⟨rfl, rfl⟩
 obtain rfl := AO h
 exact ⟨nofun, rfl, rfl⟩
def k27 : IC := (.seq (.reg [jn 2 (.box 23 (.t 0)), jn 3 (.box 23 (.t 1)), jc 4 (j6 0)]) (.seq (.regd 18 [ja 5 0 2, jl 6 1 5, ja 7 0 3, jl 8 1 7, jn 9 (.call 52 [(.t 6), (.t 8)]), ja 10 1 2, jl 11 1 10, ja 12 1 3, jl 13 1 12, jn 14 (.call 53 [(.t 11), (.t 13)]), ja 15 2 2, jl 16 1 15, ja 17 2 3, jl 18 1 17, jn 19 (.call 53 [(.t 16), (.t 18)]), jn 20 (.bsl 1 [(.t 9), (.t 14), (.t 19)]), jn 21 (.call 51 [(.t 20)]), jm 4 21]) .ret))
theorem Ja : BV Tryz.prog Tryz.f27 = some ⟨22, k27, [(.tmp 4)]⟩ := by kernel_rfl
theorem jU (N : Nat) (a0 : AQ) (a1 : AQ) (r : Int) (h : aA N a0 a1 = some r) : Sat Tryz.prog 27 AC [GH a0, GH a1] (j6 r) AC := by
 refine EL mixed Tryz.func27 Ja (rs := [j6 r]) rfl rfl ?_
 refine AA (AB ?_)
 refine CW rfl (F8 43202 rfl rfl rfl rfl rfl) ?_
 refine CW rfl (F8 43203 rfl rfl rfl rfl rfl) ?_
 refine wq rfl ?_
 refine AA (NG ?_)
 iterate 4 refine dq rfl ?_
 obtain ⟨x9, Ch, h⟩ := AP h
 refine QK rfl (LX (UD N _ _ _ Ch) rfl (.cons A9 (.cons A9 .nil)) rfl rfl rfl) CQ ?_
 iterate 4 refine dq rfl ?_
 obtain ⟨MM, Q5, h⟩ := AP h
 refine QK rfl (LX (OY N _ _ _ Q5) rfl (.cons A9 (.cons A9 .nil)) rfl rfl rfl) CQ ?_
 iterate 4 refine dq rfl ?_
 obtain ⟨OO, bO, h⟩ := AP h
 refine QK rfl (LX (OY N _ _ _ bO) rfl (.cons A9 (.cons A9 .nil)) rfl rfl rfl) CQ ?_
 refine QK rfl (.bsl _ 43220 rfl (MJ rfl) rfl) (N9 rfl) ?_
 obtain ⟨WT, bM, h⟩ := AP h
 refine QK rfl (LX (aR N _ _ bM) rfl (.cons (aB rfl (BU (f := ei) (l := [x9, MM, OO]))) .nil) rfl rfl rfl) CQ ?_
 refine dq rfl ?_
 obtain rfl := AO h
 refine BR ?_
 exact ⟨nofun, rfl, rfl⟩
def k26 : IC := (.seq (.reg [jn 2 (.box 23 (.t 0)), jc 3 (.bool false)]) (.seq (.reg [jg 4 3 2, ja 5 0 1, jg 6 3 5, jn 7 (.call 27 [(.t 4), (.t 6)]), ju .lss 8 7 0, jm 3 8]) .ret))
theorem Jb : BV Tryz.prog Tryz.f26 = some ⟨9, k26, [(.tmp 3)]⟩ := by kernel_rfl
theorem JH (N : Nat) (a0 : AQ) (c0 : AR) (r : Bool) (h : KI N a0 c0 = some r) : Sat Tryz.prog 26 AC [GH a0, .ep [j6 c0.CSN.Time, j6 c0.CSN.Seq, j6 c0.CSN.Rep, j6 c0.Kind, j6 c0.ID.Time, j6 c0.ID.Seq, j6 c0.ID.Rep, j6 c0.Parent.Time, j6 c0.Parent.Seq, j6 c0.Parent.Rep, .sl 2 (List.map AV c0.RDN), .bool c0.DelOld, .sl 3 (List.map AL c0.Mods)]] (.bool r) AC := by
 refine EL mixed Tryz.func26 Jb (rs := [.bool r]) rfl rfl ?_
 refine AA (AB ?_)
 refine CW rfl (F8 41602 rfl rfl rfl rfl rfl) ?_
 refine wq rfl ?_
 refine AA (AB ?_)
 refine AZ (p := GH a0) rfl rfl ?_
 refine AZ (p := .ep [j6 c0.CSN.Time, j6 c0.CSN.Seq, j6 c0.CSN.Rep, j6 c0.Kind, j6 c0.ID.Time, j6 c0.ID.Seq, j6 c0.ID.Rep, j6 c0.Parent.Time, j6 c0.Parent.Seq, j6 c0.Parent.Rep, .sl 2 (List.map AV c0.RDN), .bool c0.DelOld, .sl 3 (List.map AL c0.Mods)]) rfl rfl ?_
 refine AZ (p := .agg [j6 c0.CSN.Time, j6 c0.CSN.Seq, j6 c0.CSN.Rep]) rfl rfl ?_
 obtain ⟨x7, hx7, h⟩ := AP h
 refine CW rfl (CX (jU N _ _ _ hx7) rfl (.cons A9 (.cons A9 .nil)) rfl rfl rfl) ?_
 iterate 2 refine wq rfl ?_
 cases AO h
 refine BR ?_
 exact ⟨nofun, rfl, rfl⟩
def pX : IC := (.seq (.reg [jb .lss 26 25 24]) (.seq (.cond (.t 26) .skip (.exit 0)) (.seq (.block 1 (.seq (.reg [jx 27 1 23 25, jl 28 1 27, jm 4 28]) (.block 2 (.seq (.block 5 (.seq (.block 4 (.block 3 (.seq (.seq (.seq (.reg [jm 30 4, jn 31 (.bin .geq (.t 30) (.c (.int .u8 97))), jm 32 31, jt 32 33 (.mov (.t 4)), jt 32 34 (.bin .leq (.t 33) (.c (.int .u8 122))), jp 35 32 34, jm 29 35]) (.cond (.t 29) (.exit 3) .skip)) (.seq (.seq (.reg [jm 37 4, jn 38 (.bin .geq (.t 37) (.c (.int .u8 48))), jm 39 38, jt 39 40 (.mov (.t 4)), jt 39 41 (.bin .leq (.t 40) (.c (.int .u8 57))), jp 42 39 41, jm 36 42]) (.cond (.t 36) .skip (.reg [jm 43 4, jn 44 (.bin .eql (.t 43) (.c (.int .u8 45))), jm 36 44]))) (.cond (.t 36) (.exit 4) .skip))) (.exit 5)))) (.exit 2))) (.seq (.seq (.reg [jc 2 (.bool false)]) .ret) (.exit 2)))))) (.reg [ju .add 45 25 1, jm 25 45]))))
def k74 : IC := (.seq (.reg [jc 2 (.bool false)]) (.seq (.seq (.reg [jm 5 0, jn 6 (.bin .eql (.t 5) (.c (.str []))), jm 7 6, jf 7 8 (.mov (.t 0)), jf 7 9 (.len true (.t 8)), jf 7 10 (.bin .gtr (.t 9) (ji 16)), jo 11 7 10, jm 12 11, jf 12 13 (.mov (.t 0)), jf 12 14 (.idxs (.t 13) (ji 0)), jf 12 15 (.bin .lss (.t 14) (.c (.int .u8 97))), jo 16 12 15, jm 17 16, jf 17 18 (.mov (.t 0)), jf 17 19 (.idxs (.t 18) (ji 0)), jf 17 20 (.bin .gtr (.t 19) (.c (.int .u8 122))), jo 21 17 20]) (.cond (.t 21) (.seq (.reg [jc 2 (.bool false)]) .ret) .skip)) (.seq (.seq (.reg [jm 22 0, jn 23 (.cvs (.t 22)), jL 24 23, jc 25 (j6 0)]) (.block 0 (.loop pX))) (.seq (.reg [jc 2 (.bool true)]) .ret))))
theorem Hd : BV Tryz.prog Tryz.f74 = some ⟨46, k74, [(.tmp 2)]⟩ := by kernel_rfl
theorem ZH (N : Nat) (a0 : List UInt8) : ∀ (n : Nat) (x : Int) (y : Unit ⊕ Bool), IM N a0 n x = some y → WX Tryz.prog (fun _ => false) (.loop pX) ((fun (x : Int) => ⟨AX [(23, .slr 118423 0 a0.length), (24, j6 (a0.length : Int)), (25, j6 x)], AX [(118423, ⟨1, true, List.map eb a0⟩)]⟩) x) ((Sum.elim (fun y e s => e = .exit 0 ∧ s = ⟨AX [], AX []⟩) (fun y e s => e = .ret ∧ s = ⟨AX [(2, .bool y)], AX []⟩) : (Unit ⊕ Bool) → Xt → St → Prop) y) := by
 refine F5 _ _ (IM N a0) (LG N a0) (fun _ => rfl) (fun _ _ => rfl) ?_
 rintro rec v25l14 y h
 refine AA (AB ?_)
 refine wq rfl ?_
 refine AA ?_
 refine EP h rfl (fun c6 h => ?_) (fun c6 h => ?_)
 refine BH (AA (CJ (AA (AB ?_))))
 obtain ⟨x27, hx27, h⟩ := AP h
 refine AZ rfl (KF hx27 rfl rfl rfl rfl) ?_
 obtain ⟨x28, hx28, h⟩ := AP h
 refine AZ rfl (Q4 (f := eb) (v := eb x28) hx28 rfl rfl rfl) ?_
 refine wq rfl ?_
 refine CJ (AA (CJ ?_))
 refine RP (fun (x : Unit) => ⟨AX [(23, .slr 118423 0 a0.length), (24, j6 (a0.length : Int)), (25, j6 v25l14)], AX [(118423, ⟨1, true, List.map eb a0⟩)]⟩) (fun x => O1 v25l14 rec = some y) ?_ ?_
 rintro ⟨⟩ h
 refine NI ?_
 refine AB ?_
 refine AZ (p := j6 (BX (v25l14 + (1 : Int)))) rfl rfl ?_
 refine wq rfl ?_
 exact ⟨(BX (v25l14 + (1 : Int))), (cq rfl), h⟩
 iterate 2 refine CJ ?_
 iterate 2 refine AA ?_
 obtain ⟨g7, Eb, h⟩ := AP h
 refine GZ ⟨AX [(4, eb x28), (23, .slr 118423 0 a0.length), (24, j6 (a0.length : Int)), (25, j6 v25l14), (29, .bool g7)], AX [(118423, ⟨1, true, List.map eb a0⟩)]⟩ ?_ ?_
 have h := Eb
 refine AB ?_
 refine wq rfl ?_
 refine AZ (p := .bool (decide (((x28).toNat : Int) ≥ (97 : Int)))) rfl rfl ?_
 refine wq rfl ?_
 rcases CY h with ⟨c8, h⟩ | ⟨c8, h⟩
 refine AZ (gy rfl c8) rfl ?_
 refine AZ (p := .bool (decide (((x28).toNat : Int) ≤ (122 : Int)))) (gy rfl c8) rfl ?_
 refine AZ rfl (BG c8 rfl rfl) ?_
 refine wq rfl ?_
 cases AO h
 exact cq rfl
 iterate 2 refine D7 (gn rfl c8) ?_
 refine AZ rfl (BD c8 rfl rfl) ?_
 refine wq rfl ?_
 obtain rfl := AO h
 exact cq rfl
 clear Eb
 refine EP h rfl (fun c9 h => ?_) (fun c9 h => ?_)
 refine NI ?_
 exact ⟨(), (cq rfl), h⟩
 refine BH ?_
 refine RP (fun (x : Bool) => ⟨AX [(23, .slr 118423 0 a0.length), (24, j6 (a0.length : Int)), (25, j6 v25l14), (36, .bool x)], AX [(118423, ⟨1, true, List.map eb a0⟩)]⟩) (fun x => O0 v25l14 rec x = some y) ?_ ?_
 rintro u7 h
 refine EP h rfl (fun c10 h => ?_) (fun c10 h => ?_)
 refine NI ?_
 exact ⟨(), (cq rfl), h⟩
 refine BH ?_
 refine NI ?_
 iterate 2 refine AA ?_
 refine AB ?_
 refine wq rfl ?_
 obtain rfl := AO h
 exact EX (st1 := ⟨AX [(2, .bool false)], AX []⟩) (cq rfl) ⟨rfl, rfl⟩
 obtain ⟨g11, hg11, h⟩ := AP h
 refine GZ ⟨AX [(4, eb x28), (23, .slr 118423 0 a0.length), (24, j6 (a0.length : Int)), (25, j6 v25l14), (36, .bool g11)], AX [(118423, ⟨1, true, List.map eb a0⟩)]⟩ ?_ ?_
 have h := hg11
 refine AB ?_
 refine wq rfl ?_
 refine AZ (p := .bool (decide (((x28).toNat : Int) ≥ (48 : Int)))) rfl rfl ?_
 refine wq rfl ?_
 rcases CY h with ⟨c12, h⟩ | ⟨c12, h⟩
 refine AZ (gy rfl c12) rfl ?_
 refine AZ (p := .bool (decide (((x28).toNat : Int) ≤ (57 : Int)))) (gy rfl c12) rfl ?_
 refine AZ rfl (BG c12 rfl rfl) ?_
 refine wq rfl ?_
 cases AO h
 exact cq rfl
 iterate 2 refine D7 (gn rfl c12) ?_
 refine AZ rfl (BD c12 rfl rfl) ?_
 refine wq rfl ?_
 obtain rfl := AO h
 exact cq rfl
 clear hg11
 refine EP h rfl (fun c13 h => ?_) (fun c13 h => ?_)
 refine BH ?_
 exact ⟨g11, (cq rfl), h⟩
 refine AB ?_
 refine wq rfl ?_
 refine AZ (p := .bool (((x28).toNat : Int) == (45 : Int))) rfl rfl ?_
 refine wq rfl ?_
 exact ⟨(((x28).toNat : Int) == (45 : Int)), (cq rfl), h⟩
 cases AO h
 exact D9 (st1 := ⟨AX [], AX []⟩) (cq rfl) ⟨rfl, rfl⟩
theorem dM (N : Nat) (a0 : List UInt8) (r : Bool) (h : VC N a0 = some r) : Sat Tryz.prog 74 AC [.str a0] (.bool r) AC := by
 refine EL mixed Tryz.func74 Hd (rs := [.bool r]) rfl rfl ?_
 refine AA (AB ?_)
 refine wq rfl ?_
 refine AA ?_
 obtain ⟨g1, hg1, h⟩ := AP h
 refine GZ ⟨AX [(0, .str a0), (21, .bool g1)], AX []⟩ ?_ ?_
 have h := hg1
 refine AB ?_
 iterate 3 refine wq rfl ?_
 rcases CY h with ⟨c2, h⟩ | ⟨c2, h⟩
 iterate 3 refine D7 (gn rfl c2) ?_
 refine AZ rfl (BG c2 rfl rfl) ?_
 refine wq rfl ?_
 iterate 3 refine D7 rfl ?_
 iterate 2 refine wq rfl ?_
 iterate 3 refine D7 rfl ?_
 refine wq rfl ?_
 obtain rfl := AO h
 exact cq rfl
 iterate 3 refine AZ (gy rfl c2) rfl ?_
 refine AZ rfl (BD c2 rfl rfl) ?_
 refine wq rfl ?_
 rcases CY h with ⟨c3, h⟩ | ⟨c3, h⟩
 iterate 3 refine D7 (gn rfl c3) ?_
 refine AZ rfl (BG c3 rfl rfl) ?_
 refine wq rfl ?_
 iterate 3 refine D7 rfl ?_
 refine wq rfl ?_
 obtain rfl := AO h
 exact cq rfl
 refine AZ (gy rfl c3) rfl ?_
 obtain ⟨MM, Q5, h⟩ := AP h
 refine AZ (gy rfl c3) (OB Q5 rfl rfl) ?_
 refine AZ (p := .bool (decide (((MM).toNat : Int) < (97 : Int)))) (gy rfl c3) rfl ?_
 refine AZ rfl (BD c3 rfl rfl) ?_
 refine wq rfl ?_
 rcases CY h with ⟨c4, h⟩ | ⟨c4, h⟩
 iterate 3 refine D7 (gn rfl c4) ?_
 refine AZ rfl (BG c4 rfl rfl) ?_
 obtain rfl := AO h
 exact cq rfl
 refine AZ (gy rfl c4) rfl ?_
 obtain ⟨OO, bO, h⟩ := AP h
 refine AZ (gy rfl c4) (OB bO rfl rfl) ?_
 refine AZ (p := .bool (decide (((OO).toNat : Int) > (122 : Int)))) (gy rfl c4) rfl ?_
 refine AZ rfl (BD c4 rfl rfl) ?_
 cases AO h
 exact cq rfl
 clear hg1
 refine EP h rfl (fun c5 h => ?_) (fun c5 h => ?_)
 refine AA (AB ?_)
 refine wq rfl ?_
 obtain rfl := AO h
 refine BR ?_
 exact ⟨nofun, rfl, rfl⟩
 refine BH ?_
 iterate 2 refine AA ?_
 refine AB ?_
 refine wq rfl ?_
 refine CW rfl (mU 118423 rfl rfl) ?_
 iterate 2 refine wq rfl ?_
 refine CJ ?_
 obtain ⟨Y0, Cf, h⟩ := AP h
 refine PQ (ZH N a0 N _ _ Cf) (cq rfl) ?_
 clear Cf
 rcases Y0 with Y0 | Y0
 rintro e s ⟨rfl, rfl⟩
 refine AA (AB ?_)
 refine wq rfl ?_
 obtain rfl := AO h
 refine BR ?_
 exact ⟨nofun, rfl, rfl⟩
 rintro e s ⟨rfl, rfl⟩
 obtain rfl := AO h
 exact ⟨nofun, rfl, rfl⟩
def k75 : IC := (.seq (.reg [jn 2 (.box 41 (.t 0)), jc 3 (.bool false)]) (.seq (.reg [ja 4 0 2, jl 5 1 4, ja 6 0 1, jl 7 1 6, jb .eql 8 5 7, jm 3 8]) .ret))
theorem Ha : BV Tryz.prog Tryz.f75 = some ⟨9, k75, [(.tmp 3)]⟩ := by kernel_rfl
theorem aQ (N : Nat) (a0 : AU) (c0 : AU) (r : Bool) (h : WL N a0 c0 = some r) : Sat Tryz.prog 75 AC [AV a0, .ep [.str c0.Attr, .str c0.Value]] (.bool r) AC := by
 refine EL mixed Tryz.func75 Ha (rs := [.bool r]) rfl rfl ?_
 refine AA (AB ?_)
 refine CW rfl (F8 120002 rfl rfl rfl rfl rfl) ?_
 refine wq rfl ?_
 refine AA (AB ?_)
 iterate 2 refine wq rfl ?_
 refine AZ (p := .ep [.str c0.Attr, .str c0.Value]) rfl rfl ?_
 iterate 3 refine wq rfl ?_
 cases AO h
 refine BR ?_
 exact ⟨nofun, rfl, rfl⟩
def fJ : IC := (.seq (.reg [jb .lss 9 8 7]) (.seq (.cond (.t 9) .skip (.exit 0)) (.seq (.block 1 (.seq (.reg [jm 10 8, jm 5 10]) (.seq (.reg [jm 11 1, jm 12 0, jm 13 5, jx 14 2 12 13, jg 15 2 14, jn 16 (.calv (.t 11) [(.t 15)])]) (.cond (.t 16) (.seq (.reg [jm 17 5, jm 4 17]) .ret) .skip)))) (.reg [ju .add 18 8 1, jm 8 18]))))
def Gy : IC := (.seq (.reg [jc 4 (j6 0)]) (.seq (.seq (.reg [jm 6 0, jL 7 6, jc 8 (j6 0)]) (.block 0 (.loop fJ))) (.seq (.reg [jc 4 (j6 (-1))]) .ret)))
theorem rT : BV Tryz.prog Tryz.f76 = some ⟨19, Gy, [(.tmp 4)]⟩ := by kernel_rfl
theorem H5 (N : Nat) (a0 : List AU) (GN : AU) : ∀ (n : Nat) (x : Int) (y : Unit ⊕ Int), BM N a0 GN n x = some y → WX Tryz.prog (fun _ => false) (.loop fJ) ((fun (x : Int) => ⟨AX [(0, .sl 2 (List.map AV a0)), (1, .clo 75 [.ep [.str GN.Attr, .str GN.Value]]), (7, j6 (a0.length : Int)), (8, j6 x)], AX []⟩) x) ((Sum.elim (fun y e s => e = .exit 0 ∧ s = ⟨AX [], AX []⟩) (fun y e s => e = .ret ∧ s = ⟨AX [(4, j6 y)], AX []⟩) : (Unit ⊕ Int) → Xt → St → Prop) y) := by
 refine F5 _ _ (BM N a0 GN) (CE N a0 GN) (fun _ => rfl) (fun _ _ => rfl) ?_
 rintro rec v8l6 y h
 refine AA (AB ?_)
 refine wq rfl ?_
 refine AA ?_
 refine EP h rfl (fun c1 h => ?_) (fun c1 h => ?_)
 refine BH (AA (CJ (AA (AB ?_))))
 iterate 2 refine wq rfl ?_
 refine AA (AB ?_)
 iterate 3 refine wq rfl ?_
 obtain ⟨MM, Q5, h⟩ := AP h
 refine AZ rfl (EU (cs := [.str MM.Attr, .str MM.Value]) Q5 rfl rfl rfl) ?_
 refine AZ (p := AV MM) rfl rfl ?_
 obtain ⟨UA, hx16, h⟩ := AP h
 refine CW rfl (VP (aQ N _ _ _ hx16) rfl rfl rfl (.cons A9 (.cons A9 .nil)) rfl rfl rfl) ?_
 refine EP h rfl (fun c2 h => ?_) (fun c2 h => ?_)
 refine AA (AB ?_)
 iterate 2 refine wq rfl ?_
 obtain rfl := AO h
 exact EX (st1 := ⟨AX [(4, j6 v8l6)], AX []⟩) (cq rfl) ⟨rfl, rfl⟩
 refine BH (AB ?_)
 refine AZ (p := j6 (BX (v8l6 + (1 : Int)))) rfl rfl ?_
 refine wq rfl ?_
 exact ⟨(BX (v8l6 + (1 : Int))), (cq rfl), h⟩
 cases AO h
 exact D9 (st1 := ⟨AX [], AX []⟩) (cq rfl) ⟨rfl, rfl⟩
theorem I5 (N : Nat) (a0 : List AU) (GN : AU) (r : Int) (h : EE N a0 GN = some r) : Sat Tryz.prog 76 AC [.sl 2 (List.map AV a0), .clo 75 [.ep [.str GN.Attr, .str GN.Value]]] (j6 r) AC := by
 refine EL mixed Tryz.func76 rT (rs := [j6 r]) rfl rfl ?_
 refine AA (AB ?_)
 refine wq rfl ?_
 iterate 2 refine AA ?_
 refine AB ?_
 refine wq rfl ?_
 refine AZ rfl (CO rfl) ?_
 refine wq rfl ?_
 refine CJ ?_
 obtain ⟨y3, hy3, h⟩ := AP h
 refine PQ (H5 N a0 GN N _ _ hy3) (cq rfl) ?_
 clear hy3
 rcases y3 with y3 | y3
 rintro e s ⟨rfl, rfl⟩
 refine AA (AB ?_)
 refine wq rfl ?_
 cases AO h
 refine BR ?_
 exact ⟨nofun, rfl, rfl⟩
 rintro e s ⟨rfl, rfl⟩
 obtain rfl := AO h
 exact ⟨nofun, rfl, rfl⟩
def Hy : IC := (.seq (.reg [jc 4 (.bool false)]) (.seq (.reg [jm 5 0, jm 6 1, jn 7 (.call 76 [(.t 5), (.t 6)]), ju .geq 8 7 0, jm 4 8]) .ret))
theorem rX : BV Tryz.prog Tryz.f55 = some ⟨9, Hy, [(.tmp 4)]⟩ := by kernel_rfl
theorem GU (N : Nat) (a0 : List AU) (GN : AU) (r : Bool) (h : CL N a0 GN = some r) : Sat Tryz.prog 55 AC [.sl 2 (List.map AV a0), .clo 75 [.ep [.str GN.Attr, .str GN.Value]]] (.bool r) AC := by
 refine EL mixed Tryz.func55 rX (rs := [.bool r]) rfl rfl ?_
 refine AA (AB ?_)
 refine wq rfl ?_
 refine AA (AB ?_)
 iterate 2 refine wq rfl ?_
 obtain ⟨x7, hx7, h⟩ := AP h
 refine CW rfl (CX (I5 N _ _ _ hx7) rfl (.cons A9 (.cons A9 .nil)) rfl rfl rfl) ?_
 iterate 2 refine wq rfl ?_
 cases AO h
 refine BR ?_
 exact ⟨nofun, rfl, rfl⟩
def wC : IC := (.seq (.reg [jb .lss 8 7 6]) (.seq (.cond (.t 8) .skip (.exit 0)) (.seq (.block 1 (.seq (.reg [jm 9 7, jx 10 2 5 7, jg 11 2 10, jn 4 (.box 41 (.c (.agg [(.str []), (.str [])]))), jm 3 9, js 2 4 11]) (.seq (.seq (.reg [jm 12 3, ju .geq 13 12 4, jm 14 13, jf 14 15 (.fda 0 (.t 4)), jf 14 16 (.load 1 false (.t 15)), jf 14 17 (.call 74 [(.t 16)]), jf 14 18 (.un .not (.t 17)), jo 19 14 18, jm 20 19, jf 20 21 (.fda 1 (.t 4)), jf 20 22 (.load 1 false (.t 21)), jf 20 23 (.bin .eql (.t 22) (.c (.str []))), jo 24 20 23, jm 25 24, jf 25 26 (.fda 1 (.t 4)), jf 25 27 (.load 1 false (.t 26)), jf 25 28 (.len true (.t 27)), jf 25 29 (.bin .gtr (.t 28) (ji 60)), jo 30 25 29]) (.cond (.t 30) (.seq (.reg [jc 2 (.bool false)]) .ret) .skip)) (.seq (.reg [jm 31 0, jm 32 3, jn 33 (.slcl 2 (.t 31) none (some (.t 32))), jn 34 (.mkf 75 [(.t 4)]), jn 35 (.call 55 [(.t 33), (.t 34)])]) (.cond (.t 35) (.seq (.reg [jc 2 (.bool false)]) .ret) .skip))))) (.reg [ju .add 36 7 1, jm 7 36]))))
def k54 : IC := (.seq (.reg [jc 2 (.bool false)]) (.seq (.seq (.reg [jm 5 0, jL 6 5, jc 7 (j6 0)]) (.block 0 (.loop wC))) (.seq (.reg [jm 37 0, jL 38 37, ju .gtr 39 38 0, jm 2 39]) .ret)))
theorem Ia : BV Tryz.prog Tryz.f54 = some ⟨40, k54, [(.tmp 2)]⟩ := by kernel_rfl
theorem dJ (N : Nat) (a0 : List AU) : ∀ (n : Nat) (x : Int) (y : Unit ⊕ Bool), KG N a0 n x = some y → WX Tryz.prog (fun _ => false) (.loop wC) ((fun (x : Int) => ⟨AX [(0, .sl 2 (List.map AV a0)), (5, .sl 2 (List.map AV a0)), (6, j6 (a0.length : Int)), (7, j6 x)], AX []⟩) x) ((Sum.elim (fun y e s => e = .exit 0 ∧ s = ⟨AX [(0, .sl 2 (List.map AV a0))], AX []⟩) (fun y e s => e = .ret ∧ s = ⟨AX [(2, .bool y)], AX []⟩) : (Unit ⊕ Bool) → Xt → St → Prop) y) := by
 refine F5 _ _ (KG N a0) (O3 N a0) (fun _ => rfl) (fun _ _ => rfl) ?_
 rintro rec v7l6 y h
 refine AA (AB ?_)
 refine wq rfl ?_
 refine AA ?_
 refine EP h rfl (fun c1 h => ?_) (fun c1 h => ?_)
 refine BH (AA (CJ (AA (AB ?_))))
 refine wq rfl ?_
 obtain ⟨P5, TR, h⟩ := AP h
 refine AZ rfl (EU (cs := [.str P5.Attr, .str P5.Value]) TR rfl rfl rfl) ?_
 refine AZ (p := AV P5) rfl rfl ?_
 refine CW rfl (F8 86404 rfl rfl rfl rfl rfl) ?_
 refine wq rfl ?_
 refine ED (e' := AV P5) rfl rfl rfl rfl rfl rfl rfl rfl nofun rfl ?_
 refine AA ?_
 obtain ⟨g2, hg2, h⟩ := AP h
 refine GZ ⟨AX [(0, .sl 2 (List.map AV a0)), (3, j6 v7l6), (4, .ptr 86404 0 0), (5, .sl 2 (List.map AV a0)), (6, j6 (a0.length : Int)), (7, j6 v7l6), (30, .bool g2)], AX [(86404, ⟨2, false, [AV P5]⟩)]⟩ ?_ ?_
 have h := hg2
 refine AB ?_
 iterate 3 refine wq rfl ?_
 rcases CY h with ⟨c3, h⟩ | ⟨c3, h⟩
 iterate 4 refine D7 (gn rfl c3) ?_
 refine AZ rfl (BG c3 rfl rfl) ?_
 refine wq rfl ?_
 iterate 3 refine D7 rfl ?_
 iterate 2 refine wq rfl ?_
 iterate 4 refine D7 rfl ?_
 refine wq rfl ?_
 obtain rfl := AO h
 exact cq rfl
 iterate 2 refine AZ (gy rfl c3) rfl ?_
 obtain ⟨DY, TQ, h⟩ := AP h
 refine CW (gy rfl c3) (CX (dM N _ _ TQ) rfl (.cons A9 .nil) rfl rfl rfl) ?_
 refine AZ (gy rfl c3) rfl ?_
 refine AZ rfl (BD c3 rfl rfl) ?_
 refine wq rfl ?_
 rcases CY h with ⟨c4, h⟩ | ⟨c4, h⟩
 iterate 3 refine D7 (gn rfl c4) ?_
 refine AZ rfl (BG c4 rfl rfl) ?_
 refine wq rfl ?_
 iterate 4 refine D7 rfl ?_
 refine wq rfl ?_
 obtain rfl := AO h
 exact cq rfl
 iterate 3 refine AZ (gy rfl c4) rfl ?_
 refine AZ rfl (BD c4 rfl rfl) ?_
 refine wq rfl ?_
 rcases CY h with ⟨c5, h⟩ | ⟨c5, h⟩
 iterate 4 refine D7 (gn rfl c5) ?_
 refine AZ rfl (BG c5 rfl rfl) ?_
 obtain rfl := AO h
 exact cq rfl
 iterate 4 refine AZ (gy rfl c5) rfl ?_
 refine AZ rfl (BD c5 rfl rfl) ?_
 cases AO h
 exact cq rfl
 clear hg2
 refine EP h rfl (fun c6 h => ?_) (fun c6 h => ?_)
 refine AA (AB ?_)
 refine wq rfl ?_
 obtain rfl := AO h
 exact EX (st1 := ⟨AX [(2, .bool false)], AX []⟩) (cq rfl) ⟨rfl, rfl⟩
 refine BH (AA (AB ?_))
 iterate 2 refine wq rfl ?_
 obtain ⟨x33, Ki, h⟩ := AP h
 refine AZ rfl (Ay Ki rfl rfl) ?_
 refine wq rfl ?_
 refine wn (R5 86404 rfl rfl rfl) ?_
 obtain ⟨JO, Kh, h⟩ := AP h
 refine CW rfl (CX (GU N _ _ _ Kh) rfl (.cons A9 (.cons A9 .nil)) rfl rfl rfl) ?_
 refine EP h rfl (fun c7 h => ?_) (fun c7 h => ?_)
 refine AA (AB ?_)
 refine wq rfl ?_
 obtain rfl := AO h
 exact EX (st1 := ⟨AX [(2, .bool false)], AX []⟩) (cq rfl) ⟨rfl, rfl⟩
 refine BH (AB ?_)
 refine AZ (p := j6 (BX (v7l6 + (1 : Int)))) rfl rfl ?_
 refine wq rfl ?_
 exact ⟨(BX (v7l6 + (1 : Int))), (cq rfl), h⟩
 cases AO h
 exact D9 (st1 := ⟨AX [(0, .sl 2 (List.map AV a0))], AX []⟩) (cq rfl) ⟨rfl, rfl⟩
theorem XD (N : Nat) (a0 : List AU) (r : Bool) (h : UT N a0 = some r) : Sat Tryz.prog 54 AC [.sl 2 (List.map AV a0)] (.bool r) AC := by
 refine EL mixed Tryz.func54 Ia (rs := [.bool r]) rfl rfl ?_
 refine AA (AB ?_)
 refine wq rfl ?_
 iterate 2 refine AA ?_
 refine AB ?_
 refine wq rfl ?_
 refine AZ rfl (CO rfl) ?_
 refine wq rfl ?_
 refine CJ ?_
 obtain ⟨y8, zW, h⟩ := AP h
 refine PQ (dJ N a0 N _ _ zW) (cq rfl) ?_
 clear zW
 rcases y8 with y8 | y8
 rintro e s ⟨rfl, rfl⟩
 refine AA (AB ?_)
 refine wq rfl ?_
 refine AZ rfl (CO rfl) ?_
 iterate 2 refine wq rfl ?_
 cases AO h
 refine BR ?_
 exact ⟨nofun, rfl, rfl⟩
 rintro e s ⟨rfl, rfl⟩
 obtain rfl := AO h
 exact ⟨nofun, rfl, rfl⟩
def vW : IC := (.seq (.reg [jb .lss 11 10 9]) (.seq (.cond (.t 11) .skip (.exit 0)) (.seq (.block 1 (.seq (.reg [jm 12 10, jx 13 1 8 10, jl 14 1 13, jm 4 12, jm 5 14]) (.seq (.reg [jm 15 5, jn 16 (.bin .geq (.t 15) (.c (.int .u8 65))), jm 17 16, jt 17 18 (.mov (.t 5)), jt 17 19 (.bin .leq (.t 18) (.c (.int .u8 90))), jp 20 17 19]) (.cond (.t 20) (.reg [jm 21 3, jm 22 4, jm 23 5, jn 24 (.bin .add (.t 23) (.c (.int .u8 32))), jx 25 1 21 22, js 1 25 24]) .skip)))) (.reg [ju .add 26 10 1, jm 10 26]))))
def k78 : IC := (.seq (.reg [jc 2 (.str [])]) (.seq (.reg [jm 6 0, jn 7 (.cvs (.t 6)), jm 3 7]) (.seq (.seq (.reg [jm 8 3, jL 9 8, jc 10 (j6 0)]) (.block 0 (.loop vW))) (.seq (.reg [jm 27 3, jn 28 (.cvb (.t 27)), jm 2 28]) .ret))))
theorem Gw : BV Tryz.prog Tryz.f78 = some ⟨29, k78, [(.tmp 2)]⟩ := by kernel_rfl
theorem dI (N : Nat) (a0 : List UInt8) : ∀ (n : Nat) (x : Int × List UInt8) (y : List UInt8), J2 N a0 n x = some y → WX Tryz.prog (fun _ => false) (.loop vW) ((fun (x : Int × List UInt8) => ⟨AX [(3, .slr 124807 0 x.2.length), (8, .slr 124807 0 x.2.length), (9, j6 (a0.length : Int)), (10, j6 x.1)], AX [(124807, ⟨1, true, List.map eb x.2⟩)]⟩) x) ((fun y e s => e = .exit 0 ∧ s = ⟨AX [(3, .slr 124807 0 y.length)], AX [(124807, ⟨1, true, List.map eb y⟩)]⟩ : (List UInt8) → Xt → St → Prop) y) := by
 refine F5 _ _ (J2 N a0) (NZ N a0) (fun _ => rfl) (fun _ _ => rfl) ?_
 rintro rec ⟨v10l8, F3⟩ y h
 refine AA (AB ?_)
 refine wq rfl ?_
 refine AA ?_
 refine EP h rfl (fun c1 h => ?_) (fun c1 h => ?_)
 refine BH ?_
 refine RP (fun (x : List UInt8) => ⟨AX [(3, .slr 124807 0 x.length), (8, .slr 124807 0 x.length), (9, j6 (a0.length : Int)), (10, j6 v10l8)], AX [(124807, ⟨1, true, List.map eb x⟩)]⟩) (fun x => PI v10l8 rec x = some y) ?_ ?_
 rintro WF h
 refine AB ?_
 refine AZ (p := j6 (BX (v10l8 + (1 : Int)))) rfl rfl ?_
 refine wq rfl ?_
 exact ⟨((BX (v10l8 + (1 : Int))), WF), (cq rfl), h⟩
 refine CJ (AA (AB ?_))
 refine wq rfl ?_
 obtain ⟨JP, YM, h⟩ := AP h
 refine AZ rfl (KF YM rfl rfl rfl rfl) ?_
 obtain ⟨MM, Q5, h⟩ := AP h
 refine AZ rfl (Q4 (f := eb) (v := eb MM) Q5 rfl rfl rfl) ?_
 iterate 2 refine wq rfl ?_
 obtain ⟨g2, hg2, h⟩ := AP h
 refine GZ ⟨AX [(3, .slr 124807 0 F3.length), (4, j6 v10l8), (5, eb MM), (8, .slr 124807 0 F3.length), (9, j6 (a0.length : Int)), (10, j6 v10l8), (20, .bool g2)], AX [(124807, ⟨1, true, List.map eb F3⟩)]⟩ ?_ ?_
 have h := hg2
 refine AB ?_
 refine wq rfl ?_
 refine AZ (p := .bool (decide (((MM).toNat : Int) ≥ (65 : Int)))) rfl rfl ?_
 refine wq rfl ?_
 rcases CY h with ⟨c3, h⟩ | ⟨c3, h⟩
 refine AZ (gy rfl c3) rfl ?_
 refine AZ (p := .bool (decide (((MM).toNat : Int) ≤ (90 : Int)))) (gy rfl c3) rfl ?_
 refine AZ rfl (BG c3 rfl rfl) ?_
 cases AO h
 exact cq rfl
 iterate 2 refine D7 (gn rfl c3) ?_
 refine AZ rfl (BD c3 rfl rfl) ?_
 obtain rfl := AO h
 exact cq rfl
 clear hg2
 refine EP h rfl (fun c4 h => ?_) (fun c4 h => ?_)
 refine AB ?_
 iterate 3 refine wq rfl ?_
 refine AZ rfl (Au (a := MM) (b := (32 : UInt8)) rfl rfl) ?_
 obtain ⟨x25, hx25, h⟩ := AP h
 refine AZ rfl (KF hx25 rfl rfl rfl rfl) ?_
 obtain ⟨tQ, nJ, h⟩ := AP h
 refine jK (f := eb) (e' := (MM + (32 : UInt8))) nJ rfl rfl rfl rfl rfl rfl rfl rfl (fun _ => rfl) rfl ?_
 exact ⟨(F3.set x25 (MM + (32 : UInt8))), (C9.trans (L6 3 (GQ (congrArg (PV.slr 124807 0) (by simp only [List.length_set, List.length_replicate] : F3.length = (F3.set x25 (MM + (32 : UInt8))).length))) rfl) (C9.trans (L6 8 (GQ (congrArg (PV.slr 124807 0) (by simp only [List.length_set, List.length_replicate] : F3.length = (F3.set x25 (MM + (32 : UInt8))).length))) rfl) (cq rfl))), h⟩
 refine BH ?_
 exact ⟨F3, (cq rfl), h⟩
 obtain rfl := AO h
 exact D9 (st1 := ⟨AX [(3, .slr 124807 0 F3.length)], AX [(124807, ⟨1, true, List.map eb F3⟩)]⟩) (cq rfl) ⟨rfl, rfl⟩
theorem TJ (N : Nat) (a0 : List UInt8) (r : List UInt8) (h : SK N a0 = some r) : Sat Tryz.prog 78 AC [.str a0] (.str r) AC := by
 refine EL mixed Tryz.func78 Gw (rs := [.str r]) rfl rfl ?_
 refine AA (AB ?_)
 refine wq rfl ?_
 refine AA (AB ?_)
 refine wq rfl ?_
 refine CW rfl (mU 124807 rfl rfl) ?_
 refine wq rfl ?_
 iterate 2 refine AA ?_
 refine AB ?_
 iterate 3 refine wq rfl ?_
 refine CJ ?_
 obtain ⟨y6, qP, h⟩ := AP h
 refine PQ (dI N a0 N _ _ qP) (cq rfl) ?_
 rintro e s ⟨rfl, rfl⟩
 refine AA (AB ?_)
 refine wq rfl ?_
 refine AZ rfl (UK (l := y6) rfl rfl (BU (f := eb) (l := y6))) ?_
 refine wq rfl ?_
 obtain rfl := AO h
 refine BR ?_
 exact ⟨nofun, rfl, rfl⟩
def k79 : IC := (.seq (.reg [jc 0 .nl]) (.seq (.reg [jn 1 (.build [(.str []), (j6 0), (.bool false)] [(0, (1, (.c (.str [97, 99, 105])))), (1, (1, (ji 2)))]), jn 2 (.build [(.str []), (j6 0), (.bool false)] [(0, (1, (.c (.str [99])))), (1, (1, (ji 1))), (2, (1, jB))]), jn 3 (.build [(.str []), (j6 0), (.bool false)] [(0, (1, (.c (.str [99, 110])))), (1, (1, (ji 1)))]), jn 4 (.build [(.str []), (j6 0), (.bool false)] [(0, (1, (.c (.str [100, 99])))), (1, (1, (ji 1)))]), jn 5 (.build [(.str []), (j6 0), (.bool false)] [(0, (1, (.c (.str [100, 101, 115, 99, 114, 105, 112, 116, 105, 111, 110])))), (1, (1, (ji 1)))]), jn 6 (.build [(.str []), (j6 0), (.bool false)] [(0, (1, (.c (.str [101, 110, 116, 114, 121, 105, 100])))), (1, (1, (ji 2))), (2, (1, jB))]), jn 7 (.build [(.str []), (j6 0), (.bool false)] [(0, (1, (.c (.str [109, 97, 105, 108])))), (1, (1, (ji 2)))]), jn 8 (.build [(.str []), (j6 0), (.bool false)] [(0, (1, (.c (.str [109, 101, 109, 98, 101, 114])))), (1, (1, (ji 5)))]), jn 9 (.build [(.str []), (j6 0), (.bool false)] [(0, (1, (.c (.str [111])))), (1, (1, (ji 1)))]), jn 10 (.build [(.str []), (j6 0), (.bool false)] [(0, (1, (.c (.str [111, 117])))), (1, (1, (ji 1)))]), jn 11 (.build [(.str []), (j6 0), (.bool false)] [(0, (1, (.c (.str [115, 110])))), (1, (1, (ji 1)))]), jn 12 (.build [(.str []), (j6 0), (.bool false)] [(0, (1, (.c (.str [116, 105, 116, 108, 101])))), (1, (1, (ji 1))), (2, (1, jB))]), jn 13 (.build [(.str []), (j6 0), (.bool false)] [(0, (1, (.c (.str [117, 105, 100])))), (1, (1, (ji 1)))]), jn 14 (.build [(.str []), (j6 0), (.bool false)] [(0, (1, (.c (.str [117, 105, 100, 110, 117, 109, 98, 101, 114])))), (1, (1, (ji 3))), (2, (1, jB))]), jn 15 (.build [(.str []), (j6 0), (.bool false)] [(0, (1, (.c (.str [117, 115, 101, 114, 112, 97, 115, 115, 119, 111, 114, 100])))), (1, (1, (ji 4)))]), jn 16 (.bsl 3 [(.t 1), (.t 2), (.t 3), (.t 4), (.t 5), (.t 6), (.t 7), (.t 8), (.t 9), (.t 10), (.t 11), (.t 12), (.t 13), (.t 14), (.t 15)]), jm 0 16]) .ret))
theorem Gv : BV Tryz.prog Tryz.f79 = some ⟨17, k79, [(.tmp 0)]⟩ := by kernel_rfl
theorem aM (N : Nat)  (r : List BI) (h : TF N  = some r) : Sat Tryz.prog 79 AC [] (.sl 3 (List.map FB r)) AC := by
 refine EL mixed Tryz.func79 Gv (rs := [.sl 3 (List.map FB r)]) rfl rfl ?_
 refine AA (AB ?_)
 refine wq rfl ?_
 refine AA (AB ?_)
 refine AZ (p := .agg [.str ([97, 99, 105] : List UInt8), j6 2, .bool false]) rfl rfl ?_
 refine AZ (p := .agg [.str ([99] : List UInt8), j6 1, .bool true]) rfl rfl ?_
 refine AZ (p := .agg [.str ([99, 110] : List UInt8), j6 1, .bool false]) rfl rfl ?_
 refine AZ (p := .agg [.str ([100, 99] : List UInt8), j6 1, .bool false]) rfl rfl ?_
 refine AZ (p := .agg [.str ([100, 101, 115, 99, 114, 105, 112, 116, 105, 111, 110] : List UInt8), j6 1, .bool false]) rfl rfl ?_
 refine AZ (p := .agg [.str ([101, 110, 116, 114, 121, 105, 100] : List UInt8), j6 2, .bool true]) rfl rfl ?_
 refine AZ (p := .agg [.str ([109, 97, 105, 108] : List UInt8), j6 2, .bool false]) rfl rfl ?_
 refine AZ (p := .agg [.str ([109, 101, 109, 98, 101, 114] : List UInt8), j6 5, .bool false]) rfl rfl ?_
 refine AZ (p := .agg [.str ([111] : List UInt8), j6 1, .bool false]) rfl rfl ?_
 refine AZ (p := .agg [.str ([111, 117] : List UInt8), j6 1, .bool false]) rfl rfl ?_
 refine AZ (p := .agg [.str ([115, 110] : List UInt8), j6 1, .bool false]) rfl rfl ?_
 refine AZ (p := .agg [.str ([116, 105, 116, 108, 101] : List UInt8), j6 1, .bool true]) rfl rfl ?_
 refine AZ (p := .agg [.str ([117, 105, 100] : List UInt8), j6 1, .bool false]) rfl rfl ?_
 refine AZ (p := .agg [.str ([117, 105, 100, 110, 117, 109, 98, 101, 114] : List UInt8), j6 3, .bool true]) rfl rfl ?_
 refine AZ (p := .agg [.str ([117, 115, 101, 114, 112, 97, 115, 115, 119, 111, 114, 100] : List UInt8), j6 4, .bool false]) rfl rfl ?_
 refine CW rfl (UE 126416 rfl rfl rfl) ?_
 refine wq rfl ?_
 cases AO h
 refine EX (st1 := ⟨AX [(0, .sl 3 (List.map FB [(⟨([97, 99, 105] : List UInt8), 2, false⟩ : BI), (⟨([99] : List UInt8), 1, true⟩ : BI), (⟨([99, 110] : List UInt8), 1, false⟩ : BI), (⟨([100, 99] : List UInt8), 1, false⟩ : BI), (⟨([100, 101, 115, 99, 114, 105, 112, 116, 105, 111, 110] : List UInt8), 1, false⟩ : BI), (⟨([101, 110, 116, 114, 121, 105, 100] : List UInt8), 2, true⟩ : BI), (⟨([109, 97, 105, 108] : List UInt8), 2, false⟩ : BI), (⟨([109, 101, 109, 98, 101, 114] : List UInt8), 5, false⟩ : BI), (⟨([111] : List UInt8), 1, false⟩ : BI), (⟨([111, 117] : List UInt8), 1, false⟩ : BI), (⟨([115, 110] : List UInt8), 1, false⟩ : BI), (⟨([116, 105, 116, 108, 101] : List UInt8), 1, true⟩ : BI), (⟨([117, 105, 100] : List UInt8), 1, false⟩ : BI), (⟨([117, 105, 100, 110, 117, 109, 98, 101, 114] : List UInt8), 3, true⟩ : BI), (⟨([117, 115, 101, 114, 112, 97, 115, 115, 119, 111, 114, 100] : List UInt8), 4, false⟩ : BI)]))], AX []⟩) (C9.trans (Vd.freeze 126416 _ rfl rfl rfl) (C9.trans (L6 0 (GQ (congrArg (PV.sl 3) (BU (f := FB) (l := [(⟨([97, 99, 105] : List UInt8), 2, false⟩ : BI), (⟨([99] : List UInt8), 1, true⟩ : BI), (⟨([99, 110] : List UInt8), 1, false⟩ : BI), (⟨([100, 99] : List UInt8), 1, false⟩ : BI), (⟨([100, 101, 115, 99, 114, 105, 112, 116, 105, 111, 110] : List UInt8), 1, false⟩ : BI), (⟨([101, 110, 116, 114, 121, 105, 100] : List UInt8), 2, true⟩ : BI), (⟨([109, 97, 105, 108] : List UInt8), 2, false⟩ : BI), (⟨([109, 101, 109, 98, 101, 114] : List UInt8), 5, false⟩ : BI), (⟨([111] : List UInt8), 1, false⟩ : BI), (⟨([111, 117] : List UInt8), 1, false⟩ : BI), (⟨([115, 110] : List UInt8), 1, false⟩ : BI), (⟨([116, 105, 116, 108, 101] : List UInt8), 1, true⟩ : BI), (⟨([117, 105, 100] : List UInt8), 1, false⟩ : BI), (⟨([117, 105, 100, 110, 117, 109, 98, 101, 114] : List UInt8), 3, true⟩ : BI), (⟨([117, 115, 101, 114, 112, 97, 115, 115, 119, 111, 114, 100] : List UInt8), 4, false⟩ : BI)])))) rfl) (cq rfl))) ?_
 exact ⟨nofun, rfl, rfl⟩
def wB : IC := (.seq (.reg [jb .lss 11 10 9]) (.seq (.cond (.t 11) .skip (.exit 0)) (.seq (.block 1 (.seq (.reg [jx 12 3 8 10, jg 13 3 12, jn 5 (.box 90 (.c (.agg [(.str []), (j6 0), (.bool false)]))), js 3 5 13]) (.seq (.reg [ja 14 0 5, jl 15 1 14, jm 16 0, jb .eql 17 15 16]) (.cond (.t 17) (.seq (.reg [jg 18 3 5, js 3 2 18, jc 3 (.bool true)]) .ret) .skip)))) (.reg [ju .add 19 10 1, jm 10 19]))))
def k58 : IC := (.seq (.reg [jn 2 (.box 90 (.c (.agg [(.str []), (j6 0), (.bool false)]))), jc 3 (.bool false)]) (.seq (.reg [jm 6 0, jn 7 (.call 78 [(.t 6)]), jm 0 7]) (.seq (.seq (.reg [jn 8 (.call 79 []), jL 9 8, jc 10 (j6 0)]) (.block 0 (.loop wB))) (.seq (.reg [jn 20 (.build [(.str []), (j6 0), (.bool false)] []), js 3 2 20, jc 3 (.bool false)]) .ret))))
theorem Ht : BV Tryz.prog Tryz.f58 = some ⟨21, k58, [(.cell 3 true 2), (.tmp 3)]⟩ := by kernel_rfl
theorem Y3 (N : Nat) (x7 : List UInt8) (x8 : List BI) : ∀ (n : Nat) (x : Int) (y : Unit ⊕ (BI × Bool)), H7 N x7 x8 n x = some y → WX Tryz.prog (fun _ => false) (.loop wB) ((fun (x : Int) => ⟨AX [(0, .str x7), (2, .ptr 92802 0 0), (8, .sl 3 (List.map FB x8)), (9, j6 (x8.length : Int)), (10, j6 x)], AX [(92802, ⟨3, false, [.agg [.str ([] : List UInt8), j6 0, .bool false]]⟩)]⟩) x) ((Sum.elim (fun y e s => e = .exit 0 ∧ s = ⟨AX [(2, .ptr 92802 0 0)], AX [(92802, ⟨3, false, [.agg [.str ([] : List UInt8), j6 0, .bool false]]⟩)]⟩) (fun y e s => e = .ret ∧ s = ⟨AX [(2, .ptr 92802 0 0), (3, .bool y.2)], AX [(92802, ⟨3, false, [FB y.1]⟩)]⟩) : (Unit ⊕ (BI × Bool)) → Xt → St → Prop) y) := by
 refine F5 _ _ (H7 N x7 x8) (KN N x7 x8) (fun _ => rfl) (fun _ _ => rfl) ?_
 rintro rec v10l8 y h
 refine AA (AB ?_)
 refine wq rfl ?_
 refine AA ?_
 refine EP h rfl (fun c1 h => ?_) (fun c1 h => ?_)
 refine BH (AA (CJ (AA (AB ?_))))
 obtain ⟨KW, YN, h⟩ := AP h
 refine AZ rfl (EU (cs := [.str KW.Name, j6 KW.Syntax, .bool KW.Single]) YN rfl rfl rfl) ?_
 refine AZ (p := FB KW) rfl rfl ?_
 refine CW rfl (F8 92805 rfl rfl rfl rfl rfl) ?_
 refine ED (e' := FB KW) rfl rfl rfl rfl rfl rfl rfl rfl nofun rfl ?_
 refine AA (AB ?_)
 iterate 4 refine wq rfl ?_
 refine EP h rfl (fun c2 h => ?_) (fun c2 h => ?_)
 refine AA (AB ?_)
 refine AZ (p := FB KW) rfl rfl ?_
 refine ED (e' := FB KW) rfl rfl rfl rfl rfl rfl rfl rfl nofun rfl ?_
 refine wq rfl ?_
 cases AO h
 exact EX (st1 := ⟨AX [(2, .ptr 92802 0 0), (3, .bool true)], AX [(92802, ⟨3, false, [FB KW]⟩)]⟩) (cq rfl) ⟨rfl, rfl⟩
 refine BH (AB ?_)
 refine AZ (p := j6 (BX (v10l8 + (1 : Int)))) rfl rfl ?_
 refine wq rfl ?_
 exact ⟨(BX (v10l8 + (1 : Int))), (cq rfl), h⟩
 cases AO h
 exact D9 (st1 := ⟨AX [(2, .ptr 92802 0 0)], AX [(92802, ⟨3, false, [.agg [.str ([] : List UInt8), j6 0, .bool false]]⟩)]⟩) (cq rfl) ⟨rfl, rfl⟩
theorem U0 (N : Nat) (a0 : List UInt8) (r : BI × Bool) (h : O9 N a0 = some r) : Sat Tryz.prog 58 AC [.str a0] (.tup [FB r.1, .bool r.2]) AC := by
 refine EL mixed Tryz.func58 Ht (rs := [FB r.1, .bool r.2]) rfl rfl ?_
 refine AA (AB ?_)
 refine CW rfl (F8 92802 rfl rfl rfl rfl rfl) ?_
 refine wq rfl ?_
 refine AA (AB ?_)
 refine wq rfl ?_
 obtain ⟨x7, hx7, h⟩ := AP h
 refine CW rfl (CX (TJ N _ _ hx7) rfl (.cons A9 .nil) rfl rfl rfl) ?_
 refine wq rfl ?_
 iterate 2 refine AA ?_
 refine AB ?_
 obtain ⟨x8, Ci, h⟩ := AP h
 refine CW rfl (CX (aM N _ Ci) rfl .nil rfl rfl rfl) ?_
 refine AZ rfl (CO rfl) ?_
 refine wq rfl ?_
 refine CJ ?_
 obtain ⟨y3, hy3, h⟩ := AP h
 refine PQ (Y3 N x7 x8 N _ _ hy3) (cq rfl) ?_
 clear hy3
 rcases y3 with y3 | y3
 rintro e s ⟨rfl, rfl⟩
 refine AA (AB ?_)
 refine AZ (p := .agg [.str ([] : List UInt8), j6 0, .bool false]) rfl rfl ?_
 refine ED (e' := .agg [.str ([] : List UInt8), j6 0, .bool false]) rfl rfl rfl rfl rfl rfl rfl rfl nofun rfl ?_
 refine wq rfl ?_
 cases AO h
 refine BR ?_
 exact ⟨nofun, rfl, rfl⟩
 rintro e s ⟨rfl, rfl⟩
 cases AO h
 exact ⟨nofun, rfl, rfl⟩
def qK : IC := (.seq (.seq (.reg [jm 5 0, jS 6 5, ju .gtr 7 6 0, jm 8 7, jt 8 9 (.mov (.t 0)), jt 8 10 (.mov (.t 0)), jt 8 11 (.len true (.t 10)), jt 8 12 (.bin .sub (.t 11) (ji 1)), jt 8 13 (.idxs (.t 9) (.t 12)), jt 8 14 (.mov (.t 1)), jt 8 15 (.bin .eql (.t 13) (.t 14)), jp 16 8 15]) (.cond (.t 16) .skip (.exit 0))) (.block 1 (.reg [jm 17 0, jm 18 0, jS 19 18, ju .sub 20 19 1, jn 21 (.slcs (.t 17) none (some (.t 20))), jm 0 21])))
def k113 : IC := (.seq (.reg [jc 4 (.str [])]) (.seq (.block 0 (.loop qK)) (.seq (.reg [jm 22 0, jm 4 22]) .ret)))
theorem Bw : BV Tryz.prog Tryz.f113 = some ⟨23, k113, [(.tmp 4)]⟩ := by kernel_rfl
theorem PR (N : Nat) (a1 : UInt8) : ∀ (n : Nat) (x : List UInt8) (y : List UInt8), ER N a1 n x = some y → WX Tryz.prog (fun _ => false) (.loop qK) ((fun (x : List UInt8) => ⟨AX [(0, .str x), (1, eb a1)], AX []⟩) x) ((fun y e s => e = .exit 0 ∧ s = ⟨AX [(0, .str y)], AX []⟩ : (List UInt8) → Xt → St → Prop) y) := by
 refine F5 _ _ (ER N a1) (H6 N a1) (fun _ => rfl) (fun _ _ => rfl) ?_
 rintro rec v0l4 y h
 refine AA ?_
 obtain ⟨g1, hg1, h⟩ := AP h
 refine GZ ⟨AX [(0, .str v0l4), (1, eb a1), (16, .bool g1)], AX []⟩ ?_ ?_
 have h := hg1
 refine AB ?_
 iterate 4 refine wq rfl ?_
 rcases CY h with ⟨c2, h⟩ | ⟨c2, h⟩
 iterate 3 refine AZ (gy rfl c2) rfl ?_
 refine AZ (p := j6 (BX ((v0l4.length : Int) - (1 : Int)))) (gy rfl c2) rfl ?_
 obtain ⟨JP, YM, h⟩ := AP h
 refine AZ (gy rfl c2) (OB YM rfl rfl) ?_
 refine AZ (gy rfl c2) rfl ?_
 refine AZ (p := .bool (((JP).toNat : Int) == ((a1).toNat : Int))) (gy rfl c2) rfl ?_
 refine AZ rfl (BG c2 rfl rfl) ?_
 cases AO h
 exact cq rfl
 iterate 7 refine D7 (gn rfl c2) ?_
 refine AZ rfl (BD c2 rfl rfl) ?_
 obtain rfl := AO h
 exact cq rfl
 clear hg1
 refine EP h rfl (fun c3 h => ?_) (fun c3 h => ?_)
 refine BH (CJ (AB ?_))
 iterate 3 refine wq rfl ?_
 refine AZ (p := j6 (BX ((v0l4.length : Int) - (1 : Int)))) rfl rfl ?_
 obtain ⟨WT, bM, h⟩ := AP h
 refine AZ rfl (iH bM rfl rfl) ?_
 refine wq rfl ?_
 exact ⟨WT, (cq rfl), h⟩
 obtain rfl := AO h
 exact D9 (st1 := ⟨AX [(0, .str v0l4)], AX []⟩) (cq rfl) ⟨rfl, rfl⟩
theorem QO (N : Nat) (a0 : List UInt8) (a1 : UInt8) (r : List UInt8) (h : strings_trimRightByte N a0 a1 = some r) : Sat Tryz.prog 113 AC [.str a0, eb a1] (.str r) AC := by
 refine EL mixed Tryz.func113 Bw (rs := [.str r]) rfl rfl ?_
 refine AA (AB ?_)
 refine wq rfl ?_
 refine AA (CJ ?_)
 obtain ⟨y4, hy4, h⟩ := AP h
 refine PQ (PR N a1 N _ _ hy4) (cq rfl) ?_
 rintro e s ⟨rfl, rfl⟩
 refine AA (AB ?_)
 iterate 2 refine wq rfl ?_
 obtain rfl := AO h
 refine BR ?_
 exact ⟨nofun, rfl, rfl⟩
def qL : IC := (.seq (.seq (.reg [jm 5 0, jS 6 5, ju .gtr 7 6 0, jm 8 7, jt 8 9 (.mov (.t 0)), jt 8 10 (.idxs (.t 9) (ji 0)), jt 8 11 (.mov (.t 1)), jt 8 12 (.bin .eql (.t 10) (.t 11)), jp 13 8 12]) (.cond (.t 13) .skip (.exit 0))) (.block 1 (.reg [jm 14 0, jn 15 (.slcs (.t 14) (some (ji 1)) none), jm 0 15])))
def k112 : IC := (.seq (.reg [jc 4 (.str [])]) (.seq (.block 0 (.loop qL)) (.seq (.reg [jm 16 0, jm 4 16]) .ret)))
theorem Bz : BV Tryz.prog Tryz.f112 = some ⟨17, k112, [(.tmp 4)]⟩ := by kernel_rfl
theorem QL (N : Nat) (a1 : UInt8) : ∀ (n : Nat) (x : List UInt8) (y : List UInt8), EW N a1 n x = some y → WX Tryz.prog (fun _ => false) (.loop qL) ((fun (x : List UInt8) => ⟨AX [(0, .str x), (1, eb a1)], AX []⟩) x) ((fun y e s => e = .exit 0 ∧ s = ⟨AX [(0, .str y)], AX []⟩ : (List UInt8) → Xt → St → Prop) y) := by
 refine F5 _ _ (EW N a1) (I7 N a1) (fun _ => rfl) (fun _ _ => rfl) ?_
 rintro rec v0l4 y h
 refine AA ?_
 obtain ⟨g1, hg1, h⟩ := AP h
 refine GZ ⟨AX [(0, .str v0l4), (1, eb a1), (13, .bool g1)], AX []⟩ ?_ ?_
 have h := hg1
 refine AB ?_
 iterate 4 refine wq rfl ?_
 rcases CY h with ⟨c2, h⟩ | ⟨c2, h⟩
 refine AZ (gy rfl c2) rfl ?_
 obtain ⟨P5, TR, h⟩ := AP h
 refine AZ (gy rfl c2) (OB TR rfl rfl) ?_
 refine AZ (gy rfl c2) rfl ?_
 refine AZ (p := .bool (((P5).toNat : Int) == ((a1).toNat : Int))) (gy rfl c2) rfl ?_
 refine AZ rfl (BG c2 rfl rfl) ?_
 cases AO h
 exact cq rfl
 iterate 4 refine D7 (gn rfl c2) ?_
 refine AZ rfl (BD c2 rfl rfl) ?_
 obtain rfl := AO h
 exact cq rfl
 clear hg1
 refine EP h rfl (fun c3 h => ?_) (fun c3 h => ?_)
 refine BH (CJ (AB ?_))
 refine wq rfl ?_
 obtain ⟨Y2, YL, h⟩ := AP h
 refine AZ rfl (bB YL rfl rfl) ?_
 refine wq rfl ?_
 exact ⟨Y2, (cq rfl), h⟩
 obtain rfl := AO h
 exact D9 (st1 := ⟨AX [(0, .str v0l4)], AX []⟩) (cq rfl) ⟨rfl, rfl⟩
theorem RD (N : Nat) (a0 : List UInt8) (a1 : UInt8) (r : List UInt8) (h : strings_trimLeftByte N a0 a1 = some r) : Sat Tryz.prog 112 AC [.str a0, eb a1] (.str r) AC := by
 refine EL mixed Tryz.func112 Bz (rs := [.str r]) rfl rfl ?_
 refine AA (AB ?_)
 refine wq rfl ?_
 refine AA (CJ ?_)
 obtain ⟨y4, hy4, h⟩ := AP h
 refine PQ (QL N a1 N _ _ hy4) (cq rfl) ?_
 rintro e s ⟨rfl, rfl⟩
 refine AA (AB ?_)
 iterate 2 refine wq rfl ?_
 obtain rfl := AO h
 refine BR ?_
 exact ⟨nofun, rfl, rfl⟩
def k93 : IC := (.seq (.reg [jc 4 (.str [])]) (.seq (.seq (.reg [jm 7 0, jn 8 (.bin .eql (.t 7) (.c (.str []))), jm 9 8, jf 9 10 (.mov (.t 1)), jf 9 11 (.bin .eql (.t 10) (.c (.str []))), jo 12 9 11]) (.cond (.t 12) (.seq (.reg [jm 13 0, jm 4 13]) .ret) .skip)) (.seq (.seq (.reg [jm 14 1, jS 15 14, ju .eql 16 15 1, jm 17 16, jt 17 18 (.mov (.t 1)), jt 17 19 (.idxs (.t 18) (ji 0)), jt 17 20 (.bin .lss (.t 19) (.c (.int .u8 128))), jp 21 17 20]) (.cond (.t 21) (.seq (.regd 8 [jm 22 0, jm 23 1, jn 24 (.idxs (.t 23) (ji 0)), jn 25 (.call 113 [(.t 22), (.t 24)]), jm 26 1, jn 27 (.idxs (.t 26) (ji 0)), jn 28 (.call 112 [(.t 25), (.t 27)]), jm 4 28]) .ret) .skip)) (.seq (.seq (.reg [jm 30 1, jn 31 (.call 114 [(.t 30)]), jm 29 31, je 32 0 29, je 33 1 29, jn 5 (.box 150 (.c (.agg [(.bool false), (.bool false), (.bool false), (.bool false), (.bool false), (.bool false), (.bool false), (.bool false), (.bool false), (.bool false), (.bool false), (.bool false), (.bool false), (.bool false), (.bool false), (.bool false), (.bool false), (.bool false), (.bool false), (.bool false), (.bool false), (.bool false), (.bool false), (.bool false), (.bool false), (.bool false), (.bool false), (.bool false), (.bool false), (.bool false), (.bool false), (.bool false), (.bool false), (.bool false), (.bool false), (.bool false), (.bool false), (.bool false), (.bool false), (.bool false), (.bool false), (.bool false), (.bool false), (.bool false), (.bool false), (.bool false), (.bool false), (.bool false), (.bool false), (.bool false), (.bool false), (.bool false), (.bool false), (.bool false), (.bool false), (.bool false), (.bool false), (.bool false), (.bool false), (.bool false), (.bool false), (.bool false), (.bool false), (.bool false), (.bool false), (.bool false), (.bool false), (.bool false), (.bool false), (.bool false), (.bool false), (.bool false), (.bool false), (.bool false), (.bool false), (.bool false), (.bool false), (.bool false), (.bool false), (.bool false), (.bool false), (.bool false), (.bool false), (.bool false), (.bool false), (.bool false), (.bool false), (.bool false), (.bool false), (.bool false), (.bool false), (.bool false), (.bool false), (.bool false), (.bool false), (.bool false), (.bool false), (.bool false), (.bool false), (.bool false), (.bool false), (.bool false), (.bool false), (.bool false), (.bool false), (.bool false), (.bool false), (.bool false), (.bool false), (.bool false), (.bool false), (.bool false), (.bool false), (.bool false), (.bool false), (.bool false), (.bool false), (.bool false), (.bool false), (.bool false), (.bool false), (.bool false), (.bool false), (.bool false), (.bool false), (.bool false), (.bool false), (.bool false), (.bool false), (.bool false), (.bool false), (.bool false), (.bool false), (.bool false), (.bool false), (.bool false), (.bool false), (.bool false), (.bool false), (.bool false), (.bool false), (.bool false), (.bool false), (.bool false), (.bool false), (.bool false), (.bool false), (.bool false), (.bool false), (.bool false), (.bool false), (.bool false), (.bool false), (.bool false), (.bool false), (.bool false), (.bool false), (.bool false), (.bool false), (.bool false), (.bool false), (.bool false), (.bool false), (.bool false), (.bool false), (.bool false), (.bool false), (.bool false), (.bool false), (.bool false), (.bool false), (.bool false), (.bool false), (.bool false), (.bool false), (.bool false), (.bool false), (.bool false), (.bool false), (.bool false), (.bool false), (.bool false), (.bool false), (.bool false), (.bool false), (.bool false), (.bool false), (.bool false), (.bool false), (.bool false), (.bool false), (.bool false), (.bool false), (.bool false), (.bool false), (.bool false), (.bool false), (.bool false), (.bool false), (.bool false), (.bool false), (.bool false), (.bool false), (.bool false), (.bool false), (.bool false), (.bool false), (.bool false), (.bool false), (.bool false), (.bool false), (.bool false), (.bool false), (.bool false), (.bool false), (.bool false), (.bool false), (.bool false), (.bool false), (.bool false), (.bool false), (.bool false), (.bool false), (.bool false), (.bool false), (.bool false), (.bool false), (.bool false), (.bool false), (.bool false), (.bool false), (.bool false), (.bool false), (.bool false), (.bool false), (.bool false), (.bool false), (.bool false), (.bool false), (.bool false), (.bool false), (.bool false), (.bool false), (.bool false), (.bool false), (.bool false), (.bool false), (.bool false), (.bool false), (.bool false), (.bool false), (.bool false), (.bool false), (.bool false), (.bool false), (.bool false)]))), js 256 5 32, jm 6 33]) (.seq (.reg [jm 34 6]) (.cond (.t 34) (.seq (.reg [jm 35 0, jn 36 (.call 116 [(.t 35), (.t 5)]), jn 37 (.call 115 [(.t 36), (.t 5)]), jm 4 37]) .ret) .skip))) (.seq (.reg [jm 38 0, jm 39 1, jn 40 (.call 118 [(.t 38), (.t 39)]), jm 41 1, jn 42 (.call 117 [(.t 40), (.t 41)]), jm 4 42]) .ret)))))
theorem Gq : BV Tryz.prog Tryz.f93 = some ⟨43, k93, [(.tmp 4)]⟩ := by kernel_rfl
theorem YC (N : Nat) (a0 : List UInt8) (a1 : List UInt8) (r : List UInt8) (h : P7 N a0 a1 = some r) : Sat Tryz.prog 93 AC [.str a0, .str a1] (.str r) AC := by
 refine EL mixed Tryz.func93 Gq (rs := [.str r]) rfl rfl ?_
 refine AA (AB ?_)
 refine wq rfl ?_
 refine AA ?_
 obtain ⟨g1, hg1, h⟩ := AP h
 refine GZ ⟨AX [(0, .str a0), (1, .str a1), (12, .bool g1)], AX []⟩ ?_ ?_
 have h := hg1
 refine AB ?_
 iterate 3 refine wq rfl ?_
 rcases CY h with ⟨c2, h⟩ | ⟨c2, h⟩
 iterate 2 refine D7 (gn rfl c2) ?_
 refine AZ rfl (BG c2 rfl rfl) ?_
 obtain rfl := AO h
 exact cq rfl
 iterate 2 refine AZ (gy rfl c2) rfl ?_
 refine AZ rfl (BD c2 rfl rfl) ?_
 cases AO h
 exact cq rfl
 clear hg1
 refine EP h rfl (fun c3 h => ?_) (fun c3 h => ?_)
 refine AA (AB ?_)
 iterate 2 refine wq rfl ?_
 obtain rfl := AO h
 refine BR ?_
 exact ⟨nofun, rfl, rfl⟩
 refine BH (AA ?_)
 obtain ⟨g4, hg4, h⟩ := AP h
 refine GZ ⟨AX [(0, .str a0), (1, .str a1), (21, .bool g4)], AX []⟩ ?_ ?_
 have h := hg4
 refine AB ?_
 iterate 4 refine wq rfl ?_
 rcases CY h with ⟨c5, h⟩ | ⟨c5, h⟩
 refine AZ (gy rfl c5) rfl ?_
 obtain ⟨OO, bO, h⟩ := AP h
 refine AZ (gy rfl c5) (OB bO rfl rfl) ?_
 refine AZ (p := .bool (decide (((OO).toNat : Int) < (128 : Int)))) (gy rfl c5) rfl ?_
 refine AZ rfl (BG c5 rfl rfl) ?_
 cases AO h
 exact cq rfl
 iterate 3 refine D7 (gn rfl c5) ?_
 refine AZ rfl (BD c5 rfl rfl) ?_
 obtain rfl := AO h
 exact cq rfl
 clear hg4
 refine EP h rfl (fun c6 h => ?_) (fun c6 h => ?_)
 refine AA (NG ?_)
 iterate 2 refine dq rfl ?_
 obtain ⟨x24, hx24, h⟩ := AP h
 refine JF rfl (OB hx24 rfl rfl) ?_
 obtain ⟨x25, hx25, h⟩ := AP h
 refine QK rfl (LX (QO N _ _ _ hx25) rfl (.cons A9 (.cons A9 .nil)) rfl rfl rfl) CQ ?_
 refine dq rfl ?_
 obtain ⟨x27, hx27, h⟩ := AP h
 refine JF rfl (OB hx27 rfl rfl) ?_
 obtain ⟨x28, hx28, h⟩ := AP h
 refine QK rfl (LX (RD N _ _ _ hx28) rfl (.cons A9 (.cons A9 .nil)) rfl rfl rfl) CQ ?_
 refine dq rfl ?_
 obtain rfl := AO h
 refine BR ?_
 exact ⟨nofun, rfl, rfl⟩
 refine BH ?_
 iterate 2 refine AA ?_
 refine AB ?_
 refine wq rfl ?_
 cases h
def vV : IC := (.seq (.reg [jb .lss 9 8 7]) (.seq (.cond (.t 9) .skip (.exit 0)) (.seq (.block 1 (.seq (.reg [jx 10 1 6 8, jl 11 1 10, jm 4 11]) (.seq (.reg [jm 12 4, jn 13 (.bin .lss (.t 12) (.c (.int .u8 32))), jm 14 13, jf 14 15 (.mov (.t 4)), jf 14 16 (.bin .gtr (.t 15) (.c (.int .u8 126))), jo 17 14 16]) (.cond (.t 17) (.seq (.reg [jc 2 (.bool false)]) .ret) .skip)))) (.reg [ju .add 18 8 1, jm 8 18]))))
def k94 : IC := (.seq (.reg [jc 2 (.bool false)]) (.seq (.seq (.reg [jm 5 0, jn 6 (.cvs (.t 5)), jL 7 6, jc 8 (j6 0)]) (.block 0 (.loop vV))) (.seq (.reg [jc 2 (.bool true)]) .ret)))
theorem Gn : BV Tryz.prog Tryz.f94 = some ⟨19, k94, [(.tmp 2)]⟩ := by kernel_rfl
theorem WV (N : Nat) (a0 : List UInt8) : ∀ (n : Nat) (x : Int) (y : Unit ⊕ Bool), GJ N a0 n x = some y → WX Tryz.prog (fun _ => false) (.loop vV) ((fun (x : Int) => ⟨AX [(6, .slr 150406 0 a0.length), (7, j6 (a0.length : Int)), (8, j6 x)], AX [(150406, ⟨1, true, List.map eb a0⟩)]⟩) x) ((Sum.elim (fun y e s => e = .exit 0 ∧ s = ⟨AX [], AX []⟩) (fun y e s => e = .ret ∧ s = ⟨AX [(2, .bool y)], AX []⟩) : (Unit ⊕ Bool) → Xt → St → Prop) y) := by
 refine F5 _ _ (GJ N a0) (JS N a0) (fun _ => rfl) (fun _ _ => rfl) ?_
 rintro rec v8l6 y h
 refine AA (AB ?_)
 refine wq rfl ?_
 refine AA ?_
 refine EP h rfl (fun c1 h => ?_) (fun c1 h => ?_)
 refine BH (AA (CJ (AA (AB ?_))))
 obtain ⟨P5, TR, h⟩ := AP h
 refine AZ rfl (KF TR rfl rfl rfl rfl) ?_
 obtain ⟨QJ, WH, h⟩ := AP h
 refine AZ rfl (Q4 (f := eb) (v := eb QJ) WH rfl rfl rfl) ?_
 refine wq rfl ?_
 obtain ⟨g2, hg2, h⟩ := AP h
 refine GZ ⟨AX [(6, .slr 150406 0 a0.length), (7, j6 (a0.length : Int)), (8, j6 v8l6), (17, .bool g2)], AX [(150406, ⟨1, true, List.map eb a0⟩)]⟩ ?_ ?_
 have h := hg2
 refine AB ?_
 refine wq rfl ?_
 refine AZ (p := .bool (decide (((QJ).toNat : Int) < (32 : Int)))) rfl rfl ?_
 refine wq rfl ?_
 rcases CY h with ⟨c3, h⟩ | ⟨c3, h⟩
 iterate 2 refine D7 (gn rfl c3) ?_
 refine AZ rfl (BG c3 rfl rfl) ?_
 obtain rfl := AO h
 exact cq rfl
 refine AZ (gy rfl c3) rfl ?_
 refine AZ (p := .bool (decide (((QJ).toNat : Int) > (126 : Int)))) (gy rfl c3) rfl ?_
 refine AZ rfl (BD c3 rfl rfl) ?_
 cases AO h
 exact cq rfl
 clear hg2
 refine EP h rfl (fun c4 h => ?_) (fun c4 h => ?_)
 refine AA (AB ?_)
 refine wq rfl ?_
 obtain rfl := AO h
 exact EX (st1 := ⟨AX [(2, .bool false)], AX []⟩) (cq rfl) ⟨rfl, rfl⟩
 refine BH (AB ?_)
 refine AZ (p := j6 (BX (v8l6 + (1 : Int)))) rfl rfl ?_
 refine wq rfl ?_
 exact ⟨(BX (v8l6 + (1 : Int))), (cq rfl), h⟩
 cases AO h
 exact D9 (st1 := ⟨AX [], AX []⟩) (cq rfl) ⟨rfl, rfl⟩
theorem YD (N : Nat) (a0 : List UInt8) (r : Bool) (h : P8 N a0 = some r) : Sat Tryz.prog 94 AC [.str a0] (.bool r) AC := by
 refine EL mixed Tryz.func94 Gn (rs := [.bool r]) rfl rfl ?_
 refine AA (AB ?_)
 refine wq rfl ?_
 iterate 2 refine AA ?_
 refine AB ?_
 refine wq rfl ?_
 refine CW rfl (mU 150406 rfl rfl) ?_
 iterate 2 refine wq rfl ?_
 refine CJ ?_
 obtain ⟨y5, Ea, h⟩ := AP h
 refine PQ (WV N a0 N _ _ Ea) (cq rfl) ?_
 clear Ea
 rcases y5 with y5 | y5
 rintro e s ⟨rfl, rfl⟩
 refine AA (AB ?_)
 refine wq rfl ?_
 obtain rfl := AO h
 refine BR ?_
 exact ⟨nofun, rfl, rfl⟩
 rintro e s ⟨rfl, rfl⟩
 obtain rfl := AO h
 exact ⟨nofun, rfl, rfl⟩
def k153 : IC := (.seq (.reg [jc 4 (.bool false)]) (.seq (.reg [jm 5 0, jS 6 5, jm 7 1, jS 8 7, jb .geq 9 6 8, jm 10 9, jt 10 11 (.mov (.t 0)), jt 10 12 (.mov (.t 1)), jt 10 13 (.len true (.t 12)), jt 10 14 (.slcs (.t 11) none (some (.t 13))), jt 10 15 (.mov (.t 1)), jt 10 16 (.bin .eql (.t 14) (.t 15)), jp 17 10 16, jm 4 17]) .ret))
theorem Bo : BV Tryz.prog Tryz.f153 = some ⟨18, k153, [(.tmp 4)]⟩ := by kernel_rfl
theorem H8 (N : Nat) (a0 : List UInt8) (a1 : List UInt8) (r : Bool) (h : EJ N a0 a1 = some r) : Sat Tryz.prog 153 AC [.str a0, .str a1] (.bool r) AC := by
 refine EL mixed Tryz.func153 Bo (rs := [.bool r]) rfl rfl ?_
 refine AA (AB ?_)
 refine wq rfl ?_
 obtain ⟨g1, hg1, h⟩ := AP h
 refine GZ ⟨AX [(4, .bool g1)], AX []⟩ ?_ ?_
 have h := hg1
 refine AB ?_
 iterate 6 refine wq rfl ?_
 rcases CY h with ⟨c2, h⟩ | ⟨c2, h⟩
 iterate 3 refine AZ (gy rfl c2) rfl ?_
 obtain ⟨MM, Q5, h⟩ := AP h
 refine AZ (gy rfl c2) (iH Q5 rfl rfl) ?_
 iterate 2 refine AZ (gy rfl c2) rfl ?_
 refine AZ rfl (BG c2 rfl rfl) ?_
 refine wq rfl ?_
 cases AO h
 exact cq rfl
 iterate 6 refine D7 (gn rfl c2) ?_
 refine AZ rfl (BD c2 rfl rfl) ?_
 refine wq rfl ?_
 obtain rfl := AO h
 exact cq rfl
 clear hg1
 obtain rfl := AO h
 refine BR ?_
 exact ⟨nofun, rfl, rfl⟩
def k139 : IC := (.seq (.reg [jc 4 (.str [])]) (.seq (.seq (.reg [jm 5 0, jm 6 1, jn 7 (.call 153 [(.t 5), (.t 6)])]) (.cond (.t 7) (.seq (.reg [jm 8 0, jm 9 1, jS 10 9, jn 11 (.slcs (.t 8) (some (.t 10)) none), jm 4 11]) .ret) .skip)) (.seq (.reg [jm 12 0, jm 4 12]) .ret)))
theorem Br : BV Tryz.prog Tryz.f139 = some ⟨13, k139, [(.tmp 4)]⟩ := by kernel_rfl
theorem L9 (N : Nat) (a0 : List UInt8) (a1 : List UInt8) (r : List UInt8) (h : FR N a0 a1 = some r) : Sat Tryz.prog 139 AC [.str a0, .str a1] (.str r) AC := by
 refine EL mixed Tryz.func139 Br (rs := [.str r]) rfl rfl ?_
 refine AA (AB ?_)
 refine wq rfl ?_
 iterate 2 refine AA ?_
 refine AB ?_
 iterate 2 refine wq rfl ?_
 obtain ⟨x7, hx7, h⟩ := AP h
 refine CW rfl (CX (H8 N _ _ _ hx7) rfl (.cons A9 (.cons A9 .nil)) rfl rfl rfl) ?_
 refine EP h rfl (fun c1 h => ?_) (fun c1 h => ?_)
 refine AA (AB ?_)
 iterate 3 refine wq rfl ?_
 obtain ⟨QJ, WH, h⟩ := AP h
 refine AZ rfl (bB WH rfl rfl) ?_
 refine wq rfl ?_
 obtain rfl := AO h
 refine BR ?_
 exact ⟨nofun, rfl, rfl⟩
 refine BH (AA (AB ?_))
 iterate 2 refine wq rfl ?_
 obtain rfl := AO h
 refine BR ?_
 exact ⟨nofun, rfl, rfl⟩
def k119 : IC := (.seq (.reg [jc 4 (.str [])]) (.seq (.reg [jm 5 0, jm 6 1, jn 7 (.call 139 [(.t 5), (.t 6)]), jm 4 7]) .ret))
theorem Bv : BV Tryz.prog Tryz.f119 = some ⟨8, k119, [(.tmp 4)]⟩ := by kernel_rfl
theorem TH (N : Nat) (a0 : List UInt8) (a1 : List UInt8) (r : List UInt8) (h : strings_TrimPrefix N a0 a1 = some r) : Sat Tryz.prog 119 AC [.str a0, .str a1] (.str r) AC := by
 refine EL mixed Tryz.func119 Bv (rs := [.str r]) rfl rfl ?_
 refine AA (AB ?_)
 refine wq rfl ?_
 refine AA (AB ?_)
 iterate 2 refine wq rfl ?_
 obtain ⟨x7, hx7, h⟩ := AP h
 refine CW rfl (CX (L9 N _ _ _ hx7) rfl (.cons A9 (.cons A9 .nil)) rfl rfl rfl) ?_
 refine wq rfl ?_
 obtain rfl := AO h
 refine BR ?_
 exact ⟨nofun, rfl, rfl⟩
def pU : IC := (.seq (.reg [jb .lss 28 27 26]) (.seq (.cond (.t 28) .skip (.exit 0)) (.seq (.block 1 (.seq (.reg [jx 29 1 25 27, jl 30 1 29, jm 5 30]) (.seq (.reg [jm 31 5, jn 32 (.bin .lss (.t 31) (.c (.int .u8 48))), jm 33 32, jf 33 34 (.mov (.t 5)), jf 33 35 (.bin .gtr (.t 34) (.c (.int .u8 57))), jo 36 33 35]) (.cond (.t 36) (.seq (.reg [jc 2 (.bool false)]) .ret) .skip)))) (.reg [ju .add 37 27 1, jm 27 37]))))
def k95 : IC := (.seq (.reg [jc 2 (.bool false)]) (.seq (.reg [jm 6 0, jn 7 (.call 119 [(.t 6), (.c (.str [45]))]), jm 3 7]) (.seq (.seq (.reg [jm 8 3, jn 9 (.bin .eql (.t 8) (.c (.str []))), jm 10 9, jf 10 11 (.mov (.t 3)), jf 10 12 (.len true (.t 11)), jf 10 13 (.bin .gtr (.t 12) (ji 15)), jo 14 10 13, jm 15 14, jf 15 16 (.mov (.t 3)), jf 15 17 (.idxs (.t 16) (ji 0)), jf 15 18 (.bin .eql (.t 17) (.c (.int .u8 48))), jf 15 19 (.mov (.t 18)), jt 19 20 (.mov (.t 0)), jt 19 21 (.bin .neq (.t 20) (.c (.str [48]))), jf 15 22 (.pick (.t 19) (.t 21) jA), jo 23 15 22]) (.cond (.t 23) (.seq (.reg [jc 2 (.bool false)]) .ret) .skip)) (.seq (.seq (.reg [jm 24 3, jn 25 (.cvs (.t 24)), jL 26 25, jc 27 (j6 0)]) (.block 0 (.loop pU))) (.seq (.reg [jc 2 (.bool true)]) .ret)))))
theorem Gm : BV Tryz.prog Tryz.f95 = some ⟨38, k95, [(.tmp 2)]⟩ := by kernel_rfl
theorem VV (N : Nat) (x7 : List UInt8) : ∀ (n : Nat) (x : Int) (y : Unit ⊕ Bool), FC N x7 n x = some y → WX Tryz.prog (fun _ => false) (.loop pU) ((fun (x : Int) => ⟨AX [(25, .slr 152025 0 x7.length), (26, j6 (x7.length : Int)), (27, j6 x)], AX [(152025, ⟨1, true, List.map eb x7⟩)]⟩) x) ((Sum.elim (fun y e s => e = .exit 0 ∧ s = ⟨AX [], AX []⟩) (fun y e s => e = .ret ∧ s = ⟨AX [(2, .bool y)], AX []⟩) : (Unit ⊕ Bool) → Xt → St → Prop) y) := by
 refine F5 _ _ (FC N x7) (J5 N x7) (fun _ => rfl) (fun _ _ => rfl) ?_
 rintro rec v27l16 y h
 refine AA (AB ?_)
 refine wq rfl ?_
 refine AA ?_
 refine EP h rfl (fun c6 h => ?_) (fun c6 h => ?_)
 refine BH (AA (CJ (AA (AB ?_))))
 obtain ⟨x29, hx29, h⟩ := AP h
 refine AZ rfl (KF hx29 rfl rfl rfl rfl) ?_
 obtain ⟨x30, xA, h⟩ := AP h
 refine AZ rfl (Q4 (f := eb) (v := eb x30) xA rfl rfl rfl) ?_
 refine wq rfl ?_
 obtain ⟨g7, Eb, h⟩ := AP h
 refine GZ ⟨AX [(25, .slr 152025 0 x7.length), (26, j6 (x7.length : Int)), (27, j6 v27l16), (36, .bool g7)], AX [(152025, ⟨1, true, List.map eb x7⟩)]⟩ ?_ ?_
 have h := Eb
 refine AB ?_
 refine wq rfl ?_
 refine AZ (p := .bool (decide (((x30).toNat : Int) < (48 : Int)))) rfl rfl ?_
 refine wq rfl ?_
 rcases CY h with ⟨c8, h⟩ | ⟨c8, h⟩
 iterate 2 refine D7 (gn rfl c8) ?_
 refine AZ rfl (BG c8 rfl rfl) ?_
 obtain rfl := AO h
 exact cq rfl
 refine AZ (gy rfl c8) rfl ?_
 refine AZ (p := .bool (decide (((x30).toNat : Int) > (57 : Int)))) (gy rfl c8) rfl ?_
 refine AZ rfl (BD c8 rfl rfl) ?_
 cases AO h
 exact cq rfl
 clear Eb
 refine EP h rfl (fun c9 h => ?_) (fun c9 h => ?_)
 refine AA (AB ?_)
 refine wq rfl ?_
 obtain rfl := AO h
 exact EX (st1 := ⟨AX [(2, .bool false)], AX []⟩) (cq rfl) ⟨rfl, rfl⟩
 refine BH (AB ?_)
 refine AZ (p := j6 (BX (v27l16 + (1 : Int)))) rfl rfl ?_
 refine wq rfl ?_
 exact ⟨(BX (v27l16 + (1 : Int))), (cq rfl), h⟩
 cases AO h
 exact D9 (st1 := ⟨AX [], AX []⟩) (cq rfl) ⟨rfl, rfl⟩
theorem YE (N : Nat) (a0 : List UInt8) (r : Bool) (h : P9 N a0 = some r) : Sat Tryz.prog 95 AC [.str a0] (.bool r) AC := by
 refine EL mixed Tryz.func95 Gm (rs := [.bool r]) rfl rfl ?_
 refine AA (AB ?_)
 refine wq rfl ?_
 refine AA (AB ?_)
 refine wq rfl ?_
 obtain ⟨x7, hx7, h⟩ := AP h
 refine CW rfl (CX (TH N _ _ _ hx7) rfl (.cons A9 (.cons A9 .nil)) rfl rfl rfl) ?_
 refine wq rfl ?_
 refine AA ?_
 obtain ⟨g1, hg1, h⟩ := AP h
 refine GZ ⟨AX [(3, .str x7), (23, .bool g1)], AX []⟩ ?_ ?_
 have h := hg1
 refine AB ?_
 iterate 3 refine wq rfl ?_
 rcases CY h with ⟨c2, h⟩ | ⟨c2, h⟩
 iterate 3 refine D7 (gn rfl c2) ?_
 refine AZ rfl (BG c2 rfl rfl) ?_
 refine wq rfl ?_
 iterate 4 refine D7 rfl ?_
 iterate 2 refine D7 (gu rfl) ?_
 refine D7 rfl ?_
 refine wq rfl ?_
 obtain rfl := AO h
 exact cq rfl
 iterate 3 refine AZ (gy rfl c2) rfl ?_
 refine AZ rfl (BD c2 rfl rfl) ?_
 refine wq rfl ?_
 rcases CY h with ⟨c3, h⟩ | ⟨c3, h⟩
 iterate 4 refine D7 (gn rfl c3) ?_
 iterate 2 refine D7 (gu rfl) ?_
 refine D7 (gn rfl c3) ?_
 refine AZ rfl (BG c3 rfl rfl) ?_
 obtain rfl := AO h
 exact cq rfl
 refine AZ (gy rfl c3) rfl ?_
 obtain ⟨DY, TQ, h⟩ := AP h
 refine AZ (gy rfl c3) (OB TQ rfl rfl) ?_
 refine AZ (p := .bool (((DY).toNat : Int) == (48 : Int))) (gy rfl c3) rfl ?_
 refine AZ (gy rfl c3) rfl ?_
 rcases CY h with ⟨c4, h⟩ | ⟨c4, h⟩
 iterate 2 refine AZ (gy rfl c4) rfl ?_
 refine AZ (gy rfl c3) (BG c4 rfl rfl) ?_
 refine AZ rfl (BD c3 rfl rfl) ?_
 cases AO h
 exact cq rfl
 iterate 2 refine D7 (gn rfl c4) ?_
 refine AZ (gy rfl c3) (BD c4 rfl rfl) ?_
 refine AZ rfl (BD c3 rfl rfl) ?_
 obtain rfl := AO h
 exact cq rfl
 clear hg1
 refine EP h rfl (fun c5 h => ?_) (fun c5 h => ?_)
 refine AA (AB ?_)
 refine wq rfl ?_
 obtain rfl := AO h
 refine BR ?_
 exact ⟨nofun, rfl, rfl⟩
 refine BH ?_
 iterate 2 refine AA ?_
 refine AB ?_
 refine wq rfl ?_
 refine CW rfl (mU 152025 rfl rfl) ?_
 iterate 2 refine wq rfl ?_
 refine CJ ?_
 obtain ⟨OP, Cg, h⟩ := AP h
 refine PQ (VV N x7 N _ _ Cg) (cq rfl) ?_
 clear Cg
 rcases OP with OP | OP
 rintro e s ⟨rfl, rfl⟩
 refine AA (AB ?_)
 refine wq rfl ?_
 obtain rfl := AO h
 refine BR ?_
 exact ⟨nofun, rfl, rfl⟩
 rintro e s ⟨rfl, rfl⟩
 obtain rfl := AO h
 exact ⟨nofun, rfl, rfl⟩
end Go.Gp
end
