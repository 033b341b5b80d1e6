/- A part of the proof: a logic of values, rows and steps. -/
import Derived.Test.YtlopcglohpfonaaGreatDoorA4
section
namespace Go.Vd
abbrev jn (d : Nat) (o : OC) : Ins := ⟨some d, o, none⟩
abbrev jt (g d : Nat) (o : OC) : Ins := ⟨some d, o, some (g, true)⟩
abbrev jf (g d : Nat) (o : OC) : Ins := ⟨some d, o, some (g, false)⟩
abbrev jm (d s : Nat) : Ins := ⟨some d, .mov (.t s), none⟩
abbrev jc (d : Nat) (v : PV) : Ins := ⟨some d, .mov (.c v), none⟩
abbrev jl (d k s : Nat) : Ins := ⟨some d, .load k false (.t s), none⟩
abbrev jg (d k s : Nat) : Ins := ⟨some d, .load k true (.t s), none⟩
abbrev ja (d k s : Nat) : Ins := ⟨some d, .fda k (.t s), none⟩
abbrev jp (d a b : Nat) : Ins := ⟨some d, .pick (.t a) (.t b) (.c (.bool false)), none⟩
abbrev jo (d a b : Nat) : Ins := ⟨some d, .pick (.t a) (.c (.bool true)) (.t b), none⟩
abbrev jx (d k a b : Nat) : Ins := ⟨some d, .ixp k (.t a) (.t b), none⟩
abbrev js (k a b : Nat) : Ins := ⟨none, .store k (.t a) (.t b), none⟩
abbrev je (d k s : Nat) : Ins := ⟨some d, .ext k (.t s), none⟩
abbrev jL (d s : Nat) : Ins := ⟨some d, .len false (.t s), none⟩
abbrev jS (d s : Nat) : Ins := ⟨some d, .len true (.t s), none⟩
abbrev jb (o : BinOp) (d a b : Nat) : Ins := ⟨some d, .bin o (.t a) (.t b), none⟩
abbrev ju (o : BinOp) (d a : Nat) (n : Int) : Ins := ⟨some d, .bin o (.t a) (.c (.int .i64 n)), none⟩
abbrev ji (n : Int) : EB := .c (.int .i64 n)
abbrev jB : EB := .c (.bool true)
abbrev jA : EB := .c (.bool false)
abbrev j6 (n : Int) : PV := .int .i64 n
def zH {α : Type} (s : Nat → Option α) : List (Nat × α) → List (Option α)
 | [] => []
 | x :: r => s x.1 :: zH s r
def lY {α : Type} : List (Nat × α) → List (Option α)
 | [] => []
 | x :: r => some x.2 :: lY r
theorem YX {α : Type} {s : Nat → Option α} : ∀ {l : List (Nat × α)}, zH s l = lY l → MK s l
 | [], _ => trivial
 | x :: r, h => by
  injection h with h1 h2
  exact ⟨h1, YX h2⟩
section
variable {P : Program} {T : Nat → Bool}
theorem cn [BD] {st : St} {l : List (Nat × PV)} {m : List (Nat × Row)} (hs : zH st.s l = lY l) (hr : zH st.r m = lY m) (h1 : PV.tks (fun t => (AY m t).isSome) (l.map (·.2)) = true) (h2 : Q7 (fun t => (AY m t).isSome) (m.map (·.2)) = true) : CB (fun _ => false) st ⟨AY l, AY m⟩ :=
 Wl (YX hs) (YX hr) h1 h2
theorem pK [BD] (L : List Nat) {st : St} {l : List (Nat × PV)} {m : List (Nat × Row)} (hL : Eg L m = true) (hs : zH st.s l = lY l) (hr : zH st.r m = lY m) (h1 : PV.tks (fun t => (AY m t).isSome) (l.map (·.2)) = true) (h2 : Q7 (fun t => (AY m t).isSome) (m.map (·.2)) = true) : CB (fT L) st ⟨AY l, AY m⟩ :=
 Wj L hL (YX hs) (YX hr) h1 h2
theorem PT [BD] {b : IC} {st st1 : St} {Q Q' : Xt → St → Prop} (h : WX P T (.loop b) st1 Q) (hn : CB T st st1) (k : ∀ e s, Q e s → Q' e s) : WX P T (.loop b) st Q' := Qa hn h k
theorem D8 [BD] {α : Type} {t : Bool} {x y : Option α} {r : α} {c : EB} {a b : IC} {st : St} {Q : Xt → St → Prop} (h : (bif t then x else y) = some r) (hc : c.ev st.s = some (.bool t)) (ha : t = true → x = some r → WX P T a st Q) (hb : t = false → y = some r → WX P T b st Q) : WX P T (.cond c a b) st Q := by
 cases t
 ·exact xcF hc rfl (hb rfl h)
 ·exact xcT hc rfl (ha rfl h)
end
end Go.Vd
end
