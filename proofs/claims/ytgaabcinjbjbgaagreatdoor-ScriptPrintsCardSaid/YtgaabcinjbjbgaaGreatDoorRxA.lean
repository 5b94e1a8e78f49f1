/- A reflective symbolic executor, part 1: expressions, symbolic values, their meaning; heap predicates with footprints. -/
import Derived.OrdersIn
import Derived.WalkKit
namespace Go.RX

inductive IOp where
  | add | sub | mul | quo | rem | band | bor | bxor | bandNot | shl | shr | imin | imax
  deriving DecidableEq, Repr

/-- Integer expressions; each denotes a row of integers, a scalar is read at place 0. -/
inductive E where
  | lit (n : Int)
  | var (i : Nat)
  | avar (i : Nat)
  | sel (a i : E)
  | bin (o : IOp) (k : IntKind) (a b : E)
  | wrap (k : IntKind) (a : E)
  | upd (a i v : E)
  | shift (a o : E)
  | spl (a o n b : E)
  | kc (n : Nat) (a : E)
  | blk (b : Nat)
  | rowl (l : List Int)
  | at2 (a i : E)
  | put2 (a i s : E)
  | sby (s : E)
  deriving DecidableEq, Repr, Inhabited

inductive BE where
  | lit (b : Bool)
  | var (i : Nat)
  | eq (a b : E)
  | lt (a b : E)
  | le (a b : E)
  | nz (a : E)
  | aeq (n : Nat) (a b : E)
  | not (a : BE)
  | and (a b : BE)
  | or (a b : BE)
  | ite (c t e : BE)
  | seq (a b : E)
  deriving DecidableEq, Repr, Inhabited

/-- Heap predicates: what holds of a world, on a set of blocks; wr: may be written. -/
structure HP where
  wr : Bool
  p : World → (Nat → Prop) → Prop
  stable : ∀ w w' S, p w S → (∀ k, S k → w'.heap[k]? = w.heap[k]?) → p w' S

/-- A value that stands in one cell. -/
structure V1 where
  v : Value
  one : v.oneCell' = true
def V1.nil : V1 := ⟨.nilIface, rfl⟩

structure Env where
  iv : List Int := []
  av : List (Nat → Int) := []
  bo : List Bool := []
  bv : List Nat := []
  vv : List V1 := []
  va : List (Nat → V1) := []
  pv : List HP := []
  lr : List Loop := []

def bitsOp (o : IOp) (k : IntKind) (x y : Int) : Int :=
  let a := BitVec.ofInt k.bits x
  let b := BitVec.ofInt k.bits y
  match o with
  | .band => k.wrap (a &&& b).toNat
  | .bor => k.wrap (a ||| b).toNat
  | .bxor => k.wrap (a ^^^ b).toNat
  | _ => k.wrap (a &&& ~~~b).toNat

def iop (o : IOp) (k : IntKind) (x y : Int) : Int :=
  match o with
  | .add => x + y
  | .sub => x - y
  | .mul => x * y
  | .quo => x.tdiv y
  | .rem => x.tmod y
  | .imin => if y < x then y else x
  | .imax => if x < y then y else x
  | .shl => k.wrap (x * 2 ^ (min y.toNat k.bits))
  | .shr => x.fdiv (2 ^ (min y.toNat k.bits))
  | o => bitsOp o k x y

/-- A number for each row of numbers: each, put in bits, with its length behind. -/
def zig : Int → Nat
  | .ofNat n => 2 * n
  | .negSucc n => 2 * n + 1
def kcode1 (acc : Nat) (z : Int) : Nat := (2 * (acc * 2 ^ ((zig z).log2 + 1) + zig z) + 1) * 2 ^ ((zig z).log2 + 1)
def kcode (l : List Int) : Nat := l.foldl kcode1 0

/-- A string as a row of numbers: its length ahead, then its bytes. -/
def strD (f : Nat → Int) : List UInt8 := (List.range (f 0).toNat).map fun j => UInt8.ofNat (f (j + 1)).toNat
def rowS (l : List UInt8) : Nat → Int
  | 0 => l.length
  | j + 1 => ((l.getD j 0).toNat : Nat)
theorem strD_rowS (l : List UInt8) : strD (rowS l) = l := by
  apply List.ext_getElem?
  intro j
  simp only [strD, rowS, Int.toNat_natCast, List.getElem?_map]
  by_cases h : j < l.length
  · rw [List.getElem?_range h, List.getElem?_eq_getElem h]
    simp [List.getD, List.getElem?_eq_getElem h]
  · rw [List.getElem?_eq_none (by simp; omega), List.getElem?_eq_none (by omega)]
    rfl
theorem strD_length (f : Nat → Int) : (strD f).length = (f 0).toNat := by simp [strD]
/-- Rows of rows: how often 2 divides a number, and what is left. -/
def two : Nat → Nat → Nat × Nat
  | 0, k => (0, k)
  | d + 1, k => if k % 2 = 1 then (0, k / 2) else ((two d (k / 2)).1 + 1, (two d (k / 2)).2)
def pair2 (i j : Nat) : Nat := 2 ^ i * (2 * j + 1)
theorem two_pair : ∀ (i j d : Nat), i < d → two d (pair2 i j) = (i, j)
  | 0, j, d + 1, _ => by unfold two pair2; rw [if_pos (by omega)]; congr 1; omega
  | i + 1, j, d + 1, h => by
    have e : pair2 (i + 1) j = 2 * pair2 i j := by unfold pair2; rw [Nat.pow_succ, Nat.mul_comm (2 ^ i) 2, Nat.mul_assoc]
    unfold two
    rw [if_neg (by rw [e]; omega), e, Nat.mul_div_cancel_left _ (by decide), two_pair i j d (by omega)]
def split2 (k : Nat) : Nat × Nat := two k k
theorem split2_pair (i j : Nat) : split2 (pair2 i j) = (i, j) := by
  apply two_pair
  unfold pair2
  have h1 : i < 2 ^ i := Nat.lt_two_pow_self
  have h2 : 2 ^ i * 1 ≤ 2 ^ i * (2 * j + 1) := Nat.mul_le_mul_left _ (by omega)
  omega
def at2F (f : Nat → Int) (i : Nat) : Nat → Int := fun j => f (pair2 i j)
def put2F (f : Nat → Int) (i : Nat) (s : Nat → Int) : Nat → Int := fun k => if (split2 k).1 = i then s (split2 k).2 else f k
theorem at2_put2 (f : Nat → Int) (i j : Nat) (s : Nat → Int) : at2F (put2F f i s) j = if j = i then s else at2F f j := by
  funext k
  simp only [at2F, put2F, split2_pair]
  split <;> rfl

/-- A string's bytes. -/
def sbyF (f : Nat → Int) : Nat → Int := fun j => ((UInt8.ofNat (f (j + 1)).toNat).toNat : Nat)
theorem strD_get (f : Nat → Int) {j : Nat} (h : j < (f 0).toNat) : ((strD f)[j]?).map (fun b => ((b.toNat : Nat) : Int)) = some (sbyF f j) := by
  simp [strD, List.getElem?_range h, sbyF]

def E.den (ρ : Env) : E → Nat → Int
  | .lit n => fun _ => n
  | .var i => fun _ => ρ.iv.getD i 0
  | .avar i => ρ.av.getD i (fun _ => 0)
  | .sel a i => fun _ => a.den ρ (i.den ρ 0).toNat
  | .bin o k a b => fun _ => iop o k (a.den ρ 0) (b.den ρ 0)
  | .wrap k a => fun _ => k.wrap (a.den ρ 0)
  | .upd a i v => fun j => if j = (i.den ρ 0).toNat then v.den ρ 0 else a.den ρ j
  | .shift a o => fun j => a.den ρ ((o.den ρ 0).toNat + j)
  | .spl a o n b => fun j => if (o.den ρ 0).toNat ≤ j ∧ j < (o.den ρ 0).toNat + (n.den ρ 0).toNat then b.den ρ (j - (o.den ρ 0).toNat) else a.den ρ j
  | .kc n a => fun _ => (kcode ((List.range n).map (a.den ρ)) : Nat)
  | .blk b => fun _ => (ρ.bv.getD b 0 : Nat) + 1
  | .rowl l => fun j => l.getD j 0
  | .at2 a i => at2F (a.den ρ) (i.den ρ 0).toNat
  | .put2 a i s => put2F (a.den ρ) (i.den ρ 0).toNat (s.den ρ)
  | .sby s => sbyF (s.den ρ)

abbrev E.i (ρ : Env) (e : E) : Int := e.den ρ 0

def BE.den (ρ : Env) : BE → Bool
  | .lit b => b
  | .var i => ρ.bo.getD i false
  | .eq a b => a.den ρ 0 == b.den ρ 0
  | .lt a b => decide (a.den ρ 0 < b.den ρ 0)
  | .le a b => decide (a.den ρ 0 ≤ b.den ρ 0)
  | .nz a => !(a.den ρ 0 == 0)
  | .aeq n a b => (List.range n).all fun j => a.den ρ j == b.den ρ j
  | .not a => !a.den ρ
  | .and a b => a.den ρ && b.den ρ
  | .or a b => a.den ρ || b.den ρ
  | .ite c t e => if c.den ρ then t.den ρ else e.den ρ
  | .seq a b => strD (a.den ρ) == strD (b.den ρ)

def BE.prop (ρ : Env) : BE → Prop
  | .lit b => b = true
  | .var i => ρ.bo.getD i false = true
  | .eq a b => a.den ρ 0 = b.den ρ 0
  | .lt a b => a.den ρ 0 < b.den ρ 0
  | .le a b => a.den ρ 0 ≤ b.den ρ 0
  | .nz a => a.den ρ 0 ≠ 0
  | .aeq n a b => ∀ j, j < n → a.den ρ j = b.den ρ j
  | .not a => ¬ a.prop ρ
  | .and a b => a.prop ρ ∧ b.prop ρ
  | .or a b => a.prop ρ ∨ b.prop ρ
  | .ite c t e => (c.prop ρ → t.prop ρ) ∧ (¬ c.prop ρ → e.prop ρ)
  | .seq a b => strD (a.den ρ) = strD (b.den ρ)

theorem BE.den_iff (ρ : Env) (b : BE) : b.den ρ = true ↔ b.prop ρ := by
  induction b with
  | lit b => rfl
  | var i => rfl
  | eq a b => simp [BE.den, BE.prop]
  | lt a b => simp [BE.den, BE.prop]
  | le a b => simp [BE.den, BE.prop]
  | nz a => simp [BE.den, BE.prop]
  | aeq n a b => simp [BE.den, BE.prop]
  | not a ih => simp [BE.den, BE.prop, ← ih]
  | and a b iha ihb => simp [BE.den, BE.prop, iha, ihb]
  | or a b iha ihb => simp [BE.den, BE.prop, iha, ihb]
  | ite c t e ihc iht ihe =>
    simp only [BE.den, BE.prop, ← ihc, ← iht, ← ihe]
    cases c.den ρ <;> simp
  | seq a b => simp [BE.den, BE.prop]

/-- Bounds of a slice expression. -/
structure Cut where
  lo : E
  hi : E
  mx : Option E
  deriving DecidableEq, Repr, Inhabited

/-- Symbolic values. 'seg' stands among the parts of an 'agg' and in rows alone: n cells at once. -/
inductive SV where
  | int (k : IntKind) (e : E)
  | bool (b : BE)
  | nilp | nils | nilf | nili | nilm | undef
  | ptr (b c : Nat)
  | ptri (b : Nat) (i : E) (s c : Nat)
  | pv (v : Nat) (i : E) (s c : Nat)
  | sl (b : Nat) (i : E) (s : Nat) (n m : E)
  | vv (i : Nat)
  | str (l : List UInt8)
  | fn (f : Nat) (caps : List SV)
  | agg (cs : List SV)
  | seg (k : IntKind) (n : Nat) (a : E)
  | tup (vs : List SV)
  | opt (c : BE) (v : SV)
  | vsel (a : Nat) (i : E)
  | yld (l : Nat)
  | mp (b : Nat)
  | vsub (v : Nat) (cs : List Cut) (s : Nat)
  | ptrE (e : E)
  | strE (s : E)
  | ifv (c : BE) (v : Nat)
  | ifl (t : Nat) (k : IntKind) (e : E)
  deriving Repr, Inhabited

def segCells (k : IntKind) (n : Nat) (f : Nat → Int) : List Value := (List.range n).map fun j => .int k (f j)

/-- A pointer n cells behind a slice's first cell. -/
def intoSlice (v : Value) (n : Nat) : Value :=
  match v with
  | .slice (some a) _ _ => .pointer (some (a.add n))
  | _ => .pointer none

/-- What x[lo:hi:mx] is, of a slice of elements of s cells. -/
def subSlice (s : Nat) (v : Value) (lo hi : Nat) (mx : Option Nat) : Value :=
  match v with
  | .slice a _ c => .slice (if mx.getD c = lo then a else a.map (·.add (lo * s))) (hi - lo) (mx.getD c - lo)
  | _ => .nilIface
theorem subSlice_one (s : Nat) (v : Value) (lo hi : Nat) (mx : Option Nat) : (subSlice s v lo hi mx).oneCell' = true := by
  unfold subSlice; split <;> rfl
/-- Slice expressions, one behind the other. -/
def subSlices (ρ : Env) (s : Nat) (v : Value) : List Cut → Value
  | [] => v
  | c :: r => subSlices ρ s (subSlice s v (c.lo.den ρ 0).toNat (c.hi.den ρ 0).toNat (c.mx.map fun m => (m.den ρ 0).toNat)) r
theorem subSlices_one (ρ : Env) (s : Nat) : ∀ (cs : List Cut) (v : Value), v.oneCell' = true → (subSlices ρ s v cs).oneCell' = true
  | [], _, h => h
  | _ :: r, _, _ => subSlices_one ρ s r _ (subSlice_one ..)
theorem subSlices_append (ρ : Env) (s : Nat) : ∀ (a b : List Cut) (v : Value), subSlices ρ s v (a ++ b) = subSlices ρ s (subSlices ρ s v a) b
  | [], _, _ => rfl
  | _ :: r, b, _ => subSlices_append ρ s r b _

/-- A pointer to a block's first cell, by a number: 0 is nil. -/
def ptrV (z : Int) : Value := if z = 0 then .pointer none else .pointer (some ⟨(z - 1).toNat, 0, none⟩)
theorem ptrV_blk (b : Nat) : ptrV ((b : Nat) + 1) = .pointer (some ⟨b, 0, none⟩) := by
  unfold ptrV
  rw [if_neg (by omega), show ((b : Int) + 1 - 1).toNat = b by omega]
theorem ptrV_one (z : Int) : (ptrV z).oneCell' = true := by unfold ptrV; split <;> rfl

/-- A value of an interface's type that is not nil. -/
def ifaceOf (x : Value) : Value :=
  match x with
  | .iface t v => .iface t v
  | x => .iface 0 x
mutual
def SV.val (ρ : Env) : SV → Value
  | .int k e => .int k (e.den ρ 0)
  | .bool b => .bool (b.den ρ)
  | .nilp => .pointer none
  | .nils => .slice none 0 0
  | .nilf => .nilFunc
  | .nili => .nilIface
  | .nilm => .map none
  | .undef => Go.undef
  | .ptr b c => .pointer (some ⟨ρ.bv.getD b 0, c, none⟩)
  | .ptri b i s c => .pointer (some ⟨ρ.bv.getD b 0, (i.den ρ 0).toNat * s + c, none⟩)
  | .pv v i s c => intoSlice (ρ.vv.getD v V1.nil).v ((i.den ρ 0).toNat * s + c)
  | .sl b i s n m => .slice (some ⟨ρ.bv.getD b 0, (i.den ρ 0).toNat * s, none⟩) (n.den ρ 0).toNat (m.den ρ 0).toNat
  | .vv i => (ρ.vv.getD i V1.nil).v
  | .str l => .string ⟨l.toArray⟩
  | .fn f caps => .func (.func f) #[] (SV.vals ρ caps).toArray
  | .agg cs => .agg (SV.cellsL ρ cs).toArray
  | .seg k n a => .agg (segCells k n (a.den ρ)).toArray
  | .tup vs => .tuple (SV.vals ρ vs).toArray
  | .opt c v => if c.den ρ then v.val ρ else Go.undef
  | .vsel a i => ((ρ.va.getD a fun _ => V1.nil) (i.den ρ 0).toNat).v
  | .yld l => .func (.yield (ρ.bv.getD l 0)) #[] #[]
  | .mp b => .map (some (ρ.bv.getD b 0))
  | .vsub v cs s => subSlices ρ s (ρ.vv.getD v V1.nil).v cs
  | .ptrE e => ptrV (e.den ρ 0)
  | .strE s => .string ⟨(strD (s.den ρ)).toArray⟩
  | .ifv c v => if c.den ρ then ifaceOf (ρ.vv.getD v V1.nil).v else .nilIface
  | .ifl t k e => .iface t (.int k (e.den ρ 0))
def SV.vals (ρ : Env) : List SV → List Value
  | [] => []
  | v :: r => v.val ρ :: SV.vals ρ r
def SV.cellsL (ρ : Env) : List SV → List Value
  | [] => []
  | v :: r => SV.cells ρ v ++ SV.cellsL ρ r
def SV.cells (ρ : Env) : SV → List Value
  | .agg cs => SV.cellsL ρ cs
  | .seg k n a => segCells k n (a.den ρ)
  | .int k e => [.int k (e.den ρ 0)]
  | .bool b => [.bool (b.den ρ)]
  | .nilp => [.pointer none]
  | .nils => [.slice none 0 0]
  | .nilf => [.nilFunc]
  | .nili => [.nilIface]
  | .nilm => [.map none]
  | .undef => [Go.undef]
  | .ptr b c => [.pointer (some ⟨ρ.bv.getD b 0, c, none⟩)]
  | .ptri b i s c => [.pointer (some ⟨ρ.bv.getD b 0, (i.den ρ 0).toNat * s + c, none⟩)]
  | .pv v i s c => [intoSlice (ρ.vv.getD v V1.nil).v ((i.den ρ 0).toNat * s + c)]
  | .sl b i s n m => [.slice (some ⟨ρ.bv.getD b 0, (i.den ρ 0).toNat * s, none⟩) (n.den ρ 0).toNat (m.den ρ 0).toNat]
  | .vv i => [(ρ.vv.getD i V1.nil).v]
  | .str l => [.string ⟨l.toArray⟩]
  | .fn f caps => [.func (.func f) #[] (SV.vals ρ caps).toArray]
  | .tup vs => [.tuple (SV.vals ρ vs).toArray]
  | .opt c v => [if c.den ρ then v.val ρ else Go.undef]
  | .vsel a i => [((ρ.va.getD a fun _ => V1.nil) (i.den ρ 0).toNat).v]
  | .yld l => [.func (.yield (ρ.bv.getD l 0)) #[] #[]]
  | .mp b => [.map (some (ρ.bv.getD b 0))]
  | .vsub v cs s => [subSlices ρ s (ρ.vv.getD v V1.nil).v cs]
  | .ptrE e => [ptrV (e.den ρ 0)]
  | .strE s => [.string ⟨(strD (s.den ρ)).toArray⟩]
  | .ifv c v => [if c.den ρ then ifaceOf (ρ.vv.getD v V1.nil).v else .nilIface]
  | .ifl t k e => [.iface t (.int k (e.den ρ 0))]
end

end Go.RX
