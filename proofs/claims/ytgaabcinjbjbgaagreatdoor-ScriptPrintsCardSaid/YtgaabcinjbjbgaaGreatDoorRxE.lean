/- A reflective symbolic executor, part 5: contracts, and what a formula says. -/
import Derived.Test.YtgaabcinjbjbgaaGreatDoorRxD
namespace Go.RX

/-- A contract: on whatever memory beside, the call returns; its value and what it owns then are as 'post' says. -/
def Meets (P : Program) (f : Nat) (args : List Value) (pre : List HP) (post : Value → List HP → Prop) : Prop :=
  ∀ (w : World) (Fs : List HP), Owns (pre ++ Fs) w →
    Calls P f args.toArray w fun e w' => ∃ v hs, e = .returned v ∧ post v hs ∧ Owns (hs ++ Fs) w' ∧ Same w w'

structure Ext where
  b : List Nat
  v : List V1
  i : List Int
  a : List (Nat → Int)
  bo : List Bool
  p : List HP
  r : List Loop

def allN {α : Type} : Nat → (List α → Prop) → Prop
  | 0, f => f []
  | n + 1, f => ∀ x, allN n fun xs => f (x :: xs)
def exN {α : Type} : Nat → (List α → Prop) → Prop
  | 0, f => f []
  | n + 1, f => ∃ x, exN n fun xs => f (x :: xs)

def allExt (c : Cnt) (f : Ext → Prop) : Prop :=
  allN c.b fun b => allN c.v fun v => allN c.i fun i => allN c.a fun a => allN c.bo fun bo => allN c.p fun p => allN c.r fun r => f ⟨b, v, i, a, bo, p, r⟩
def exExt (c : Cnt) (f : Ext → Prop) : Prop :=
  exN c.b fun b => exN c.v fun v => exN c.i fun i => exN c.a fun a => exN c.bo fun bo => exN c.p fun p => exN c.r fun r => f ⟨b, v, i, a, bo, p, r⟩

def Env.ext (ρ : Env) (x : Ext) : Env :=
  { ρ with bv := ρ.bv ++ x.b, vv := ρ.vv ++ x.v, iv := ρ.iv ++ x.i, av := ρ.av ++ x.a, bo := ρ.bo ++ x.bo, pv := ρ.pv ++ x.p, lr := ρ.lr ++ x.r }
def Env.take (ρ : Env) (c : Cnt) : Env :=
  { ρ with bv := ρ.bv.take c.b, vv := ρ.vv.take c.v, iv := ρ.iv.take c.i, av := ρ.av.take c.a, bo := ρ.bo.take c.bo, pv := ρ.pv.take c.p, lr := ρ.lr.take c.r }
def Env.addB (ρ : Env) (b : Nat) : Env := { ρ with bv := ρ.bv ++ [b] }
def Env.addV (ρ : Env) (v : V1) : Env := { ρ with vv := ρ.vv ++ [v] }

def Eq2.holds (ρ ρ' : Env) : Eq2 → Prop
  | .e x y => x.den ρ 0 = y.den ρ' 0
  | .a n x y => ∀ j, j < (n.den ρ 0).toNat → x.den ρ j = y.den ρ' j
  | .b x y => x.den ρ = y.den ρ'
  | .af x y => x.den ρ = y.den ρ'
  | .v i j => ρ.vv.getD i V1.nil = ρ'.vv.getD j V1.nil
  | .p i j => ρ.pv.getD i HP.emp = ρ'.pv.getD j HP.emp
  | .bl i j => ρ.bv.getD i 0 = ρ'.bv.getD j 0
  | .rc i j => ρ.lr.getD i loop0 = ρ'.lr.getD j loop0

def Eqs (ρ ρ' : Env) : List Eq2 → Prop → Prop
  | [], q => q
  | x :: r, q => x.holds ρ ρ' ∧ Eqs ρ ρ' r q

structure LC where
  I : Ext → Prop
  μ : Ext → Nat
  cur : Ext
def LC.none : LC := ⟨fun _ => False, fun _ => 0, ⟨[], [], [], [], [], [], []⟩⟩
def setL (L : Nat → LC) (i : Nat) (l : LC) : Nat → LC := fun j => if j = i then l else L j

def Need (b r : Prop) : Prop := b ∧ (b → r)
def Fork (c t e : Prop) : Prop := (c → t) ∧ (¬ c → e)

def VC (P : Program) (Post : Value → List HP → Prop) : F → Env → (Nat → LC) → Prop
  | .fail _ _, _, _ => False
  | .vc b r, ρ, L => Need (b.prop ρ) (VC P Post r ρ L)
  | .fork c t e, ρ, L => Fork (c.prop ρ) (VC P Post t ρ L) (VC P Post e ρ L)
  | .ret v hp, ρ, _ => Post (v.val ρ) (hp.map (Ck.den ρ))
  | .allB r, ρ, L => ∀ b, VC P Post r (ρ.addB b) L
  | .allV r, ρ, L => ∀ v, VC P Post r (ρ.addV v) L
  | .allRec true r, ρ, L => ∀ d l c, VC P Post r (ρ.ext ⟨[d, l], [], [], [], [], [], [c]⟩) L
  | .allRec false r, ρ, L => ∀ l c, VC P Post r (ρ.ext ⟨[l], [], [], [], [], [], [c]⟩) L
  | .nilV r, ρ, L => VC P Post r (ρ.addV ⟨.slice none 0 0, rfl⟩) L
  | .call f args use inc v new r, ρ, L =>
    ∃ post, Meets P f (SV.vals ρ args) (use.map (Ck.den ρ)) post ∧
      ∀ x hs, post x hs → exExt inc fun e => x = v.val (ρ.ext e) ∧ hs = new.map (Ck.den (ρ.ext e)) ∧ VC P Post r (ρ.ext e) L
  | .loop up inc eqs body, ρ, L =>
    ∃ (I : Ext → Prop) (μ : Ext → Nat), (exExt inc fun e => Eqs (ρ.ext e) ρ eqs (I e)) ∧
      allExt inc fun e => I e → VC P Post body (ρ.ext e) (setL L up ⟨I, μ, e⟩)
  | .back up c0 inc eqs, ρ, L =>
    exExt inc fun e => Eqs ((ρ.take c0).ext e) ρ eqs ((L up).I e ∧ (L up).μ e < (L up).μ (L up).cur)
  | .join up inc body r, ρ, L =>
    ∃ I : Ext → Prop, VC P Post body ρ (setL L up ⟨I, fun _ => 0, ⟨[], [], [], [], [], [], []⟩⟩) ∧ allExt inc fun e => I e → VC P Post r (ρ.ext e) L
  | .meet up c0 inc eqs, ρ, L =>
    exExt inc fun e => Eqs ((ρ.take c0).ext e) ρ eqs ((L up).I e)
  | .both a b, ρ, L => VC P Post a ρ L ∧ VC P Post b ρ L
  | .ghost use inc eqs new r, ρ, L =>
    ∃ I : Ext → Prop, (∀ w Fs, Owns (use.map (Ck.den ρ) ++ Fs) w → exExt inc fun e => Eqs (ρ.ext e) ρ eqs (Owns (new.map (Ck.den (ρ.ext e)) ++ Fs) w ∧ I e)) ∧
      allExt inc fun e => I e → VC P Post r (ρ.ext e) L

/-- Helpers that the printed formulas name. -/
def updF (f : Nat → Int) (i : Nat) (v : Int) : Nat → Int := fun j => if j = i then v else f j
def rowLF (l : List Int) : Nat → Int := fun j => l.getD j 0
def shiftF (f : Nat → Int) (o : Nat) : Nat → Int := fun j => f (o + j)
def splF (f : Nat → Int) (o n : Nat) (g : Nat → Int) : Nat → Int := fun j => if o ≤ j ∧ j < o + n then g (j - o) else f j

end Go.RX
