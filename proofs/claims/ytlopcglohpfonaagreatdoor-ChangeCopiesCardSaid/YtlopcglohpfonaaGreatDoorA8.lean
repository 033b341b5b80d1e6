/- A part of the proof: a logic of values, rows and steps. -/
import Derived.Test.YtlopcglohpfonaaGreatDoorA4
section
namespace Go.Vd
abbrev jn (d : Nat) (o : KY) : Ins := ⟨some d, o, none⟩
abbrev jt (g d : Nat) (o : KY) : Ins := ⟨some d, o, some (g, true)⟩
abbrev jf (g d : Nat) (o : KY) : Ins := ⟨some d, o, some (g, false)⟩
abbrev jm (d s : Nat) : Ins := ⟨some d, .mov (.t s), none⟩
abbrev jc (d : Nat) (v : PV) : Ins := ⟨some d, .mov (.c v), none⟩
abbrev jl (d k s : Nat) : Ins := ⟨some d, .load k false (.t s), none⟩
abbrev jg (d k s : Nat) : Ins := ⟨some d, .load k true (.t s), none⟩
abbrev ja (d k s : Nat) : Ins := ⟨some d, .fda k (.t s), none⟩
abbrev jp (d a b : Nat) : Ins := ⟨some d, .pick (.t a) (.t b) (.c (.bool false)), none⟩
abbrev jo (d a b : Nat) : Ins := ⟨some d, .pick (.t a) (.c (.bool true)) (.t b), none⟩
abbrev jx (d k a b : Nat) : Ins := ⟨some d, .ixp k (.t a) (.t b), none⟩
abbrev js (k a b : Nat) : Ins := ⟨none, .store k (.t a) (.t b), none⟩
abbrev je (d k s : Nat) : Ins := ⟨some d, .ext k (.t s), none⟩
abbrev jL (d s : Nat) : Ins := ⟨some d, .len false (.t s), none⟩
abbrev jS (d s : Nat) : Ins := ⟨some d, .len true (.t s), none⟩
abbrev jb (o : BinOp) (d a b : Nat) : Ins := ⟨some d, .bin o (.t a) (.t b), none⟩
abbrev ju (o : BinOp) (d a : Nat) (n : Int) : Ins := ⟨some d, .bin o (.t a) (.c (.int .i64 n)), none⟩
abbrev ji (n : Int) : DD := .c (.int .i64 n)
abbrev jB : DD := .c (.bool true)
abbrev jA : DD := .c (.bool false)
abbrev j6 (n : Int) : PV := .int .i64 n
def ZK {α : Type} (s : Nat → Option α) : List (Nat × α) → List (Option α)
 | [] => []
 | x :: r => s x.1 :: ZK s r
def TW {α : Type} : List (Nat × α) → List (Option α)
 | [] => []
 | x :: r => some x.2 :: TW r
theorem OL {α : Type} {s : Nat → Option α} : ∀ {l : List (Nat × α)}, ZK s l = TW l → JK s l
 | [], _ => trivial
 | x :: r, h => by
  injection h with h1 h2
  exact ⟨h1, OL h2⟩
section
variable {P : Program} {T : Nat → Bool}
theorem cn [BA] {st : St} {l : List (Nat × PV)} {m : List (Nat × Row)} (hs : ZK st.s l = TW l) (hr : ZK st.r m = TW m) (h1 : PV.tks (fun t => (AX m t).isSome) (l.map (·.2)) = true) (h2 : IK (fun t => (AX m t).isSome) (m.map (·.2)) = true) : C9 (fun _ => false) st ⟨AX l, AX m⟩ :=
 Lb (OL hs) (OL hr) h1 h2
theorem jF [BA] (L : List Nat) {st : St} {l : List (Nat × PV)} {m : List (Nat × Row)} (hL : vN L m = true) (hs : ZK st.s l = TW l) (hr : ZK st.r m = TW m) (h1 : PV.tks (fun t => (AX m t).isSome) (l.map (·.2)) = true) (h2 : IK (fun t => (AX m t).isSome) (m.map (·.2)) = true) : C9 (Z8 L) st ⟨AX l, AX m⟩ :=
 La L hL (OL hs) (OL hr) h1 h2
theorem wq [BA] {d : Option Nat} {op : KY} {g : Option (Nat × Bool)} {r : List Ins} {st : St} {K : St → Prop} {p : PV} (h : (UF st.s g, pop st.s st.r op) = (some true, some p)) (k : Wr P T r (st.put d p) K) : Wr P T (⟨d, op, g⟩ :: r) st K :=
 AZ (congrArg Prod.fst h) (congrArg Prod.snd h) k
theorem dq [BA] {d : Option Nat} {op : KY} {g : Option (Nat × Bool)} {r : List Ins} {st : St} {K : St → Prop} {p : PV} (h : (UF st.s g, pop st.s st.r op) = (some true, some p)) (k : jG P r (st.put d p) K) : jG P (⟨d, op, g⟩ :: r) st K :=
 JF (congrArg Prod.fst h) (congrArg Prod.snd h) k
theorem cq [BA] {st : St} {l : List (Nat × PV)} {m : List (Nat × Row)} (h : (ZK st.s l, ZK st.r m, PV.tks (fun t => (AX m t).isSome) (l.map (·.2)), IK (fun t => (AX m t).isSome) (m.map (·.2))) = (TW l, TW m, true, true)) : C9 (fun _ => false) st ⟨AX l, AX m⟩ :=
 cn (congrArg (·.1) h) (congrArg (·.2.1) h) (congrArg (·.2.2.1) h) (congrArg (·.2.2.2) h)
theorem PQ [BA] {b : IC} {st st1 : St} {Q Q' : Xt → St → Prop} (h : WX P T (.loop b) st1 Q) (hn : C9 T st st1) (k : ∀ e s, Q e s → Q' e s) : WX P T (.loop b) st Q' := Fa hn h k
theorem EP [BA] {α : Type} {t : Bool} {x y : Option α} {r : α} {c : DD} {a b : IC} {st : St} {Q : Xt → St → Prop} (h : (bif t then x else y) = some r) (hc : c.ev st.s = some (.bool t)) (ha : t = true → x = some r → WX P T a st Q) (hb : t = false → y = some r → WX P T b st Q) : WX P T (.cond c a b) st Q := by
 cases t
 ·exact xcF hc rfl (hb rfl h)
 ·exact Dr hc rfl (ha rfl h)
end
end Go.Vd
end
