/- Part A of a symbolic run of Go code by computation: its states, conditions and the proof that a condition that holds says what the function returns. No conditions of its own. -/
import Derived.WalkKit
import Derived.OrdersHeld
import Derived.OrdersIn
import Derived.Below
set_option linter.unusedVariables false
set_option linter.unusedSimpArgs false
namespace Go.Sx
open Go.RowKit

/-! the environment and the expressions -/
def nth : List Value → Nat → Value
  | [], _ => undef
  | v :: _, 0 => v
  | _ :: l, n + 1 => nth l n

def vlen : Value → Nat
  | .slice _ n _ => n
  | .string s => s.size
  | _ => 0
def vcap : Value → Nat
  | .slice _ _ c => c
  | _ => 0
def vint : Value → Int
  | .int _ n => n
  | _ => 0
def vbool : Value → Bool
  | .bool b => b
  | _ => false
def vaddr : Value → Option Addr
  | .pointer a => a
  | .slice a _ _ => a
  | _ => none
def vnil : Value → Bool
  | .pointer a => a.isNone
  | .slice a _ _ => a.isNone
  | .map r => r.isNone
  | .nilFunc => true
  | _ => false

inductive IE where
  | lit (n : Int)
  | var (i : Nat)
  | len (i : Nat)
  | cap (i : Nat)
  | add (a b : IE)
  | sub (a b : IE)
  | mul (a b : IE)
  | quo (a b : IE)
  | rem (a b : IE)
  | wrap (k : IntKind) (a : IE)
  | bit (op : BinOp) (k : IntKind) (a b : IE)
  | shl (k : IntKind) (a b : IE)
  | shr (k : IntKind) (a b : IE)
  | min (a b : IE)
  | max (a b : IE)

def bitv (op : BinOp) (k : IntKind) (x y : Int) : Int :=
  match op with
  | .and => k.wrap ((BitVec.ofInt k.bits x &&& BitVec.ofInt k.bits y).toNat : Int)
  | .or => k.wrap ((BitVec.ofInt k.bits x ||| BitVec.ofInt k.bits y).toNat : Int)
  | .xor => k.wrap ((BitVec.ofInt k.bits x ^^^ BitVec.ofInt k.bits y).toNat : Int)
  | .andNot => k.wrap ((BitVec.ofInt k.bits x &&& ~~~ BitVec.ofInt k.bits y).toNat : Int)
  | _ => 0

def IE.den (ε : List Value) : IE → Int
  | .lit n => n
  | .var i => vint (nth ε i)
  | .len i => (vlen (nth ε i) : Int)
  | .cap i => (vcap (nth ε i) : Int)
  | .add a b => a.den ε + b.den ε
  | .sub a b => a.den ε - b.den ε
  | .mul a b => a.den ε * b.den ε
  | .quo a b => (a.den ε).tdiv (b.den ε)
  | .rem a b => (a.den ε).tmod (b.den ε)
  | .wrap k a => k.wrap (a.den ε)
  | .bit op k a b => bitv op k (a.den ε) (b.den ε)
  | .shl k a b => k.wrap (a.den ε * 2 ^ (Min.min (b.den ε).toNat k.bits))
  | .shr k a b => (a.den ε).fdiv (2 ^ (Min.min (b.den ε).toNat k.bits))
  | .min a b => if b.den ε < a.den ε then b.den ε else a.den ε
  | .max a b => if b.den ε > a.den ε then b.den ε else a.den ε

def IE.wf (n : Nat) : IE → Bool
  | .lit _ => true
  | .var i => Nat.blt i n
  | .len i => Nat.blt i n
  | .cap i => Nat.blt i n
  | .add a b => a.wf n && b.wf n
  | .sub a b => a.wf n && b.wf n
  | .mul a b => a.wf n && b.wf n
  | .quo a b => a.wf n && b.wf n
  | .rem a b => a.wf n && b.wf n
  | .wrap _ a => a.wf n
  | .bit _ _ a b => a.wf n && b.wf n
  | .shl _ a b => a.wf n && b.wf n
  | .shr _ a b => a.wf n && b.wf n
  | .min a b => a.wf n && b.wf n
  | .max a b => a.wf n && b.wf n

def IE.same : IE → IE → Bool
  | .lit n, .lit m => decide (n = m)
  | .var i, .var j => Nat.beq i j
  | .len i, .len j => Nat.beq i j
  | .cap i, .cap j => Nat.beq i j
  | .add a b, .add c d => a.same c && b.same d
  | .sub a b, .sub c d => a.same c && b.same d
  | .mul a b, .mul c d => a.same c && b.same d
  | .quo a b, .quo c d => a.same c && b.same d
  | .rem a b, .rem c d => a.same c && b.same d
  | .wrap k a, .wrap k' b => decide (k = k') && a.same b
  | .bit o k a b, .bit o' k' c d => decide (o = o') && (decide (k = k') && (a.same c && b.same d))
  | .shl k a b, .shl k' c d => decide (k = k') && (a.same c && b.same d)
  | .shr k a b, .shr k' c d => decide (k = k') && (a.same c && b.same d)
  | .min a b, .min c d => a.same c && b.same d
  | .max a b, .max c d => a.same c && b.same d
  | _, _ => false

theorem IE.same_eq : ∀ {a b : IE}, a.same b = true → a = b := by
  intro a
  induction a with
  | lit n => intro b h; cases b <;> simp_all [IE.same]
  | var i => intro b h; cases b <;> simp_all [IE.same]
  | len i => intro b h; cases b <;> simp_all [IE.same]
  | cap i => intro b h; cases b <;> simp_all [IE.same]
  | add a b iha ihb => intro b h; cases b <;> simp [IE.same] at h; rw [iha h.1, ihb h.2]
  | sub a b iha ihb => intro b h; cases b <;> simp [IE.same] at h; rw [iha h.1, ihb h.2]
  | mul a b iha ihb => intro b h; cases b <;> simp [IE.same] at h; rw [iha h.1, ihb h.2]
  | quo a b iha ihb => intro b h; cases b <;> simp [IE.same] at h; rw [iha h.1, ihb h.2]
  | rem a b iha ihb => intro b h; cases b <;> simp [IE.same] at h; rw [iha h.1, ihb h.2]
  | wrap k a ih => intro b h; cases b <;> simp [IE.same] at h; rw [h.1, ih h.2]
  | bit o k a b iha ihb => intro b h; cases b <;> simp [IE.same] at h; rw [h.1, h.2.1, iha h.2.2.1, ihb h.2.2.2]
  | shl k a b iha ihb => intro b h; cases b <;> simp [IE.same] at h; rw [h.1, iha h.2.1, ihb h.2.2]
  | shr k a b iha ihb => intro b h; cases b <;> simp [IE.same] at h; rw [h.1, iha h.2.1, ihb h.2.2]
  | min a b iha ihb => intro b h; cases b <;> simp [IE.same] at h; rw [iha h.1, ihb h.2]
  | max a b iha ihb => intro b h; cases b <;> simp [IE.same] at h; rw [iha h.1, ihb h.2]

inductive BE where
  | lit (b : Bool)
  | var (i : Nat)
  | lt (a b : IE)
  | le (a b : IE)
  | eq (a b : IE)
  | not (a : BE)
  | and (a b : BE)
  | or (a b : BE)
  | beq (a b : BE)
  | nil (i : Nat)

def ltB (a b : Int) : Bool := decide (a < b)
def leB (a b : Int) : Bool := decide (a ≤ b)
def eqB (a b : Int) : Bool := decide (a = b)
@[simp] theorem ltB_eq (a b : Int) : ltB a b = decide (a < b) := rfl
@[simp] theorem leB_eq (a b : Int) : leB a b = decide (a ≤ b) := rfl
@[simp] theorem eqB_eq (a b : Int) : eqB a b = decide (a = b) := rfl
def BE.den (ε : List Value) : BE → Bool
  | .lit b => b
  | .var i => vbool (nth ε i)
  | .lt a b => ltB (a.den ε) (b.den ε)
  | .le a b => leB (a.den ε) (b.den ε)
  | .eq a b => eqB (a.den ε) (b.den ε)
  | .not a => !a.den ε
  | .and a b => a.den ε && b.den ε
  | .or a b => a.den ε || b.den ε
  | .beq a b => a.den ε == b.den ε
  | .nil i => vnil (nth ε i)

def BE.wf (n : Nat) : BE → Bool
  | .lit _ => true
  | .var i => Nat.blt i n
  | .lt a b => a.wf n && b.wf n
  | .le a b => a.wf n && b.wf n
  | .eq a b => a.wf n && b.wf n
  | .not a => a.wf n
  | .and a b => a.wf n && b.wf n
  | .or a b => a.wf n && b.wf n
  | .beq a b => a.wf n && b.wf n
  | .nil i => Nat.blt i n

def BE.same : BE → BE → Bool
  | .lit a, .lit b => a == b
  | .var i, .var j => Nat.beq i j
  | .lt a b, .lt c d => a.same c && b.same d
  | .le a b, .le c d => a.same c && b.same d
  | .eq a b, .eq c d => a.same c && b.same d
  | .not a, .not b => a.same b
  | .and a b, .and c d => a.same c && b.same d
  | .or a b, .or c d => a.same c && b.same d
  | .beq a b, .beq c d => a.same c && b.same d
  | .nil i, .nil j => Nat.beq i j
  | _, _ => false

theorem BE.same_eq : ∀ {a b : BE}, a.same b = true → a = b := by
  intro a
  induction a with
  | lit n => intro b h; cases b <;> simp_all [BE.same]
  | var i => intro b h; cases b <;> simp_all [BE.same]
  | lt a b => intro b h; cases b <;> simp [BE.same] at h; rw [IE.same_eq h.1, IE.same_eq h.2]
  | le a b => intro b h; cases b <;> simp [BE.same] at h; rw [IE.same_eq h.1, IE.same_eq h.2]
  | eq a b => intro b h; cases b <;> simp [BE.same] at h; rw [IE.same_eq h.1, IE.same_eq h.2]
  | not a ih => intro b h; cases b <;> simp [BE.same] at h; rw [ih h]
  | and a b iha ihb => intro b h; cases b <;> simp [BE.same] at h; rw [iha h.1, ihb h.2]
  | or a b iha ihb => intro b h; cases b <;> simp [BE.same] at h; rw [iha h.1, ihb h.2]
  | beq a b iha ihb => intro b h; cases b <;> simp [BE.same] at h; rw [iha h.1, ihb h.2]
  | nil i => intro b h; cases b <;> simp_all [BE.same]

/-- what is known of a test on this way -/
def known (path : List (BE × Bool)) (b : BE) : Option Bool :=
  match b with
  | .lit r => some r
  | b => match path with
    | [] => none
    | (c, r) :: rest => if c.same b then some r else known rest b

/-! symbolic values -/
inductive SV where
  | var (i : Nat)
  | int (k : IntKind) (e : IE)
  | bool (b : BE)
  | ptr (i off : Nat)
  | elt (i off : Nat) (e : IE) (size off2 : Nat)
  | slc (i lo n c : Nat)
  | agg (l : List SV)
  | tuple (l : List SV)
  | fn (f : Nat) (l : List SV)
  | cst (v : Value)

def addO (a : Option Addr) (n : Nat) : Option Addr := a.map (·.add n)

mutual
def SV.den (ε : List Value) : SV → Value
  | .var i => nth ε i
  | .int k e => .int k (e.den ε)
  | .bool b => .bool (b.den ε)
  | .ptr i off => .pointer (addO (vaddr (nth ε i)) off)
  | .elt i off e size off2 => .pointer (addO (addO (addO (vaddr (nth ε i)) off) ((e.den ε).toNat * size)) off2)
  | .slc i lo n c => .slice (addO (vaddr (nth ε i)) lo) n c
  | .agg l => .agg (denL ε l).toArray
  | .tuple l => .tuple (denL ε l).toArray
  | .fn f l => .func (.func f) #[] (denL ε l).toArray
  | .cst v => v
def denL (ε : List Value) : List SV → List Value
  | [] => []
  | s :: l => s.den ε :: denL ε l
end

mutual
def SV.wf (n : Nat) : SV → Bool
  | .var i => Nat.blt i n
  | .int _ e => e.wf n
  | .bool b => b.wf n
  | .ptr i _ => Nat.blt i n
  | .elt i _ e _ _ => Nat.blt i n && e.wf n
  | .slc i _ _ _ => Nat.blt i n
  | .agg l => wfL n l
  | .tuple l => wfL n l
  | .fn _ l => wfL n l
  | .cst _ => true
def wfL (n : Nat) : List SV → Bool
  | [] => true
  | s :: l => s.wf n && wfL n l
end

theorem nth_append (ε δ : List Value) : ∀ i, Nat.blt i ε.length = true → nth (ε ++ δ) i = nth ε i := by
  induction ε with
  | nil => intro i h; simp at h
  | cons v ε ih =>
    intro i h
    cases i with
    | zero => rfl
    | succ i => exact ih i (by simp at h ⊢; omega)

theorem IE.den_append (ε δ : List Value) : ∀ (e : IE), e.wf ε.length = true → e.den (ε ++ δ) = e.den ε := by
  intro e
  induction e with
  | lit n => intro _; rfl
  | var i => intro h; simp only [IE.den]; rw [nth_append _ _ _ h]
  | len i => intro h; simp only [IE.den]; rw [nth_append _ _ _ h]
  | cap i => intro h; simp only [IE.den]; rw [nth_append _ _ _ h]
  | wrap k a ih => intro h; simp only [IE.den, ih h]
  | bit op k a b iha ihb => intro h; simp only [IE.wf, Bool.and_eq_true] at h; simp only [IE.den, iha h.1, ihb h.2]
  | shl k a b iha ihb => intro h; simp only [IE.wf, Bool.and_eq_true] at h; simp only [IE.den, iha h.1, ihb h.2]
  | shr k a b iha ihb => intro h; simp only [IE.wf, Bool.and_eq_true] at h; simp only [IE.den, iha h.1, ihb h.2]
  | _ a b iha ihb => intro h; simp only [IE.wf, Bool.and_eq_true] at h; simp only [IE.den, iha h.1, ihb h.2]

theorem BE.den_append (ε δ : List Value) : ∀ (e : BE), e.wf ε.length = true → e.den (ε ++ δ) = e.den ε := by
  intro e
  induction e with
  | lit n => intro _; rfl
  | var i => intro h; simp only [BE.den]; rw [nth_append _ _ _ h]
  | nil i => intro h; simp only [BE.den]; rw [nth_append _ _ _ h]
  | lt a b => intro h; simp only [BE.wf, Bool.and_eq_true] at h; simp only [BE.den, IE.den_append _ _ _ h.1, IE.den_append _ _ _ h.2]
  | le a b => intro h; simp only [BE.wf, Bool.and_eq_true] at h; simp only [BE.den, IE.den_append _ _ _ h.1, IE.den_append _ _ _ h.2]
  | eq a b => intro h; simp only [BE.wf, Bool.and_eq_true] at h; simp only [BE.den, IE.den_append _ _ _ h.1, IE.den_append _ _ _ h.2]
  | not a ih => intro h; simp only [BE.den, ih h]
  | _ a b iha ihb => intro h; simp only [BE.wf, Bool.and_eq_true] at h; simp only [BE.den, iha h.1, ihb h.2]

mutual
theorem SV.den_append (ε δ : List Value) : ∀ (s : SV), s.wf ε.length = true → s.den (ε ++ δ) = s.den ε
  | .var i, h => by simp only [SV.den]; exact nth_append _ _ _ h
  | .int k e, h => by simp only [SV.den]; rw [IE.den_append _ _ _ h]
  | .bool b, h => by simp only [SV.den]; rw [BE.den_append _ _ _ h]
  | .ptr i off, h => by simp only [SV.den]; rw [nth_append _ _ _ h]
  | .elt i off e size o2, h => by
    simp only [SV.wf, Bool.and_eq_true] at h
    simp only [SV.den]; rw [nth_append _ _ _ h.1, IE.den_append _ _ _ h.2]
  | .slc i lo n c, h => by simp only [SV.den]; rw [nth_append _ _ _ h]
  | .agg l, h => by simp only [SV.den]; rw [denL_append ε δ l h]
  | .tuple l, h => by simp only [SV.den]; rw [denL_append ε δ l h]
  | .fn f l, h => by simp only [SV.den]; rw [denL_append ε δ l h]
  | .cst v, _ => rfl
theorem denL_append (ε δ : List Value) : ∀ (l : List SV), wfL ε.length l = true → denL (ε ++ δ) l = denL ε l
  | [], _ => rfl
  | s :: l, h => by
    simp only [wfL, Bool.and_eq_true] at h
    simp only [denL]; rw [SV.den_append ε δ s h.1, denL_append ε δ l h.2]
end

theorem denL_map (ε : List Value) : ∀ l : List SV, denL ε l = l.map (SV.den ε)
  | [] => rfl
  | s :: l => by simp only [denL, List.map]; rw [denL_map ε l]

end Go.Sx
