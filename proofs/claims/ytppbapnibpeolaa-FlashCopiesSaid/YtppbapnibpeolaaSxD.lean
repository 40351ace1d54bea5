/- Part A of a symbolic run of Go code by computation: its states, conditions and the proof that a condition that holds says what the function returns. No conditions of its own. -/
import Derived.WalkKit
import Derived.OrdersHeld
import Derived.OrdersIn
import Derived.Below
import Derived.RangeFuncLeaves
import Derived.RangeFuncRecord
import Derived.RangeFuncSeq
set_option linter.unusedVariables false
set_option linter.unusedSimpArgs false
namespace Go.Sx
open Go.RowKit

/-! the environment and the expressions -/
def nth : List Value → Nat → Value
  | [], _ => undef
  | v :: _, 0 => v
  | _ :: l, n + 1 => nth l n

def vlen : Value → Nat
  | .slice _ n _ => n
  | .string s => s.size
  | _ => 0
def vcap : Value → Nat
  | .slice _ _ c => c
  | _ => 0
def vint : Value → Int
  | .int _ n => n
  | _ => 0
def vbool : Value → Bool
  | .bool b => b
  | _ => false
def vaddr : Value → Option Addr
  | .pointer a => a
  | .slice a _ _ => a
  | _ => none
def vnil : Value → Bool
  | .pointer a => a.isNone
  | .slice a _ _ => a.isNone
  | .map r => r.isNone
  | .nilFunc => true
  | _ => false

inductive IE where
  | lit (n : Int)
  | var (i : Nat)
  | len (i : Nat)
  | cap (i : Nat)
  | add (a b : IE)
  | sub (a b : IE)
  | mul (a b : IE)
  | quo (a b : IE)
  | rem (a b : IE)
  | wrap (k : IntKind) (a : IE)
  | bit (op : BinOp) (k : IntKind) (a b : IE)
  | shl (k : IntKind) (a b : IE)
  | shr (k : IntKind) (a b : IE)
  | min (a b : IE)
  | max (a b : IE)

def bitv (op : BinOp) (k : IntKind) (x y : Int) : Int :=
  match op with
  | .and => k.wrap ((BitVec.ofInt k.bits x &&& BitVec.ofInt k.bits y).toNat : Int)
  | .or => k.wrap ((BitVec.ofInt k.bits x ||| BitVec.ofInt k.bits y).toNat : Int)
  | .xor => k.wrap ((BitVec.ofInt k.bits x ^^^ BitVec.ofInt k.bits y).toNat : Int)
  | .andNot => k.wrap ((BitVec.ofInt k.bits x &&& ~~~ BitVec.ofInt k.bits y).toNat : Int)
  | _ => 0

def IE.den (ε : List Value) : IE → Int
  | .lit n => n
  | .var i => vint (nth ε i)
  | .len i => (vlen (nth ε i) : Int)
  | .cap i => (vcap (nth ε i) : Int)
  | .add a b => a.den ε + b.den ε
  | .sub a b => a.den ε - b.den ε
  | .mul a b => a.den ε * b.den ε
  | .quo a b => (a.den ε).tdiv (b.den ε)
  | .rem a b => (a.den ε).tmod (b.den ε)
  | .wrap k a => k.wrap (a.den ε)
  | .bit op k a b => bitv op k (a.den ε) (b.den ε)
  | .shl k a b => k.wrap (a.den ε * 2 ^ (Min.min (b.den ε).toNat k.bits))
  | .shr k a b => (a.den ε).fdiv (2 ^ (Min.min (b.den ε).toNat k.bits))
  | .min a b => if b.den ε < a.den ε then b.den ε else a.den ε
  | .max a b => if b.den ε > a.den ε then b.den ε else a.den ε

def IE.wf (n : Nat) : IE → Bool
  | .lit _ => true
  | .var i => Nat.blt i n
  | .len i => Nat.blt i n
  | .cap i => Nat.blt i n
  | .add a b => a.wf n && b.wf n
  | .sub a b => a.wf n && b.wf n
  | .mul a b => a.wf n && b.wf n
  | .quo a b => a.wf n && b.wf n
  | .rem a b => a.wf n && b.wf n
  | .wrap _ a => a.wf n
  | .bit _ _ a b => a.wf n && b.wf n
  | .shl _ a b => a.wf n && b.wf n
  | .shr _ a b => a.wf n && b.wf n
  | .min a b => a.wf n && b.wf n
  | .max a b => a.wf n && b.wf n

def IE.same : IE → IE → Bool
  | .lit n, .lit m => decide (n = m)
  | .var i, .var j => Nat.beq i j
  | .len i, .len j => Nat.beq i j
  | .cap i, .cap j => Nat.beq i j
  | .add a b, .add c d => a.same c && b.same d
  | .sub a b, .sub c d => a.same c && b.same d
  | .mul a b, .mul c d => a.same c && b.same d
  | .quo a b, .quo c d => a.same c && b.same d
  | .rem a b, .rem c d => a.same c && b.same d
  | .wrap k a, .wrap k' b => decide (k = k') && a.same b
  | .bit o k a b, .bit o' k' c d => decide (o = o') && (decide (k = k') && (a.same c && b.same d))
  | .shl k a b, .shl k' c d => decide (k = k') && (a.same c && b.same d)
  | .shr k a b, .shr k' c d => decide (k = k') && (a.same c && b.same d)
  | .min a b, .min c d => a.same c && b.same d
  | .max a b, .max c d => a.same c && b.same d
  | _, _ => false

theorem IE.same_eq : ∀ {a b : IE}, a.same b = true → a = b := by
  intro a
  induction a with
  | lit n => intro b h; cases b <;> simp_all [IE.same]
  | var i => intro b h; cases b <;> simp_all [IE.same]
  | len i => intro b h; cases b <;> simp_all [IE.same]
  | cap i => intro b h; cases b <;> simp_all [IE.same]
  | add a b iha ihb => intro b h; cases b <;> simp [IE.same] at h; rw [iha h.1, ihb h.2]
  | sub a b iha ihb => intro b h; cases b <;> simp [IE.same] at h; rw [iha h.1, ihb h.2]
  | mul a b iha ihb => intro b h; cases b <;> simp [IE.same] at h; rw [iha h.1, ihb h.2]
  | quo a b iha ihb => intro b h; cases b <;> simp [IE.same] at h; rw [iha h.1, ihb h.2]
  | rem a b iha ihb => intro b h; cases b <;> simp [IE.same] at h; rw [iha h.1, ihb h.2]
  | wrap k a ih => intro b h; cases b <;> simp [IE.same] at h; rw [h.1, ih h.2]
  | bit o k a b iha ihb => intro b h; cases b <;> simp [IE.same] at h; rw [h.1, h.2.1, iha h.2.2.1, ihb h.2.2.2]
  | shl k a b iha ihb => intro b h; cases b <;> simp [IE.same] at h; rw [h.1, iha h.2.1, ihb h.2.2]
  | shr k a b iha ihb => intro b h; cases b <;> simp [IE.same] at h; rw [h.1, iha h.2.1, ihb h.2.2]
  | min a b iha ihb => intro b h; cases b <;> simp [IE.same] at h; rw [iha h.1, ihb h.2]
  | max a b iha ihb => intro b h; cases b <;> simp [IE.same] at h; rw [iha h.1, ihb h.2]

inductive BE where
  | lit (b : Bool)
  | var (i : Nat)
  | lt (a b : IE)
  | le (a b : IE)
  | eq (a b : IE)
  | not (a : BE)
  | and (a b : BE)
  | or (a b : BE)
  | beq (a b : BE)
  | nil (i : Nat)

def ltB (a b : Int) : Bool := decide (a < b)
def leB (a b : Int) : Bool := decide (a ≤ b)
def eqB (a b : Int) : Bool := decide (a = b)
@[simp] theorem ltB_eq (a b : Int) : ltB a b = decide (a < b) := rfl
@[simp] theorem leB_eq (a b : Int) : leB a b = decide (a ≤ b) := rfl
@[simp] theorem eqB_eq (a b : Int) : eqB a b = decide (a = b) := rfl
def BE.den (ε : List Value) : BE → Bool
  | .lit b => b
  | .var i => vbool (nth ε i)
  | .lt a b => ltB (a.den ε) (b.den ε)
  | .le a b => leB (a.den ε) (b.den ε)
  | .eq a b => eqB (a.den ε) (b.den ε)
  | .not a => !a.den ε
  | .and a b => a.den ε && b.den ε
  | .or a b => a.den ε || b.den ε
  | .beq a b => a.den ε == b.den ε
  | .nil i => vnil (nth ε i)

def BE.wf (n : Nat) : BE → Bool
  | .lit _ => true
  | .var i => Nat.blt i n
  | .lt a b => a.wf n && b.wf n
  | .le a b => a.wf n && b.wf n
  | .eq a b => a.wf n && b.wf n
  | .not a => a.wf n
  | .and a b => a.wf n && b.wf n
  | .or a b => a.wf n && b.wf n
  | .beq a b => a.wf n && b.wf n
  | .nil i => Nat.blt i n

def BE.same : BE → BE → Bool
  | .lit a, .lit b => a == b
  | .var i, .var j => Nat.beq i j
  | .lt a b, .lt c d => a.same c && b.same d
  | .le a b, .le c d => a.same c && b.same d
  | .eq a b, .eq c d => a.same c && b.same d
  | .not a, .not b => a.same b
  | .and a b, .and c d => a.same c && b.same d
  | .or a b, .or c d => a.same c && b.same d
  | .beq a b, .beq c d => a.same c && b.same d
  | .nil i, .nil j => Nat.beq i j
  | _, _ => false

theorem BE.same_eq : ∀ {a b : BE}, a.same b = true → a = b := by
  intro a
  induction a with
  | lit n => intro b h; cases b <;> simp_all [BE.same]
  | var i => intro b h; cases b <;> simp_all [BE.same]
  | lt a b => intro b h; cases b <;> simp [BE.same] at h; rw [IE.same_eq h.1, IE.same_eq h.2]
  | le a b => intro b h; cases b <;> simp [BE.same] at h; rw [IE.same_eq h.1, IE.same_eq h.2]
  | eq a b => intro b h; cases b <;> simp [BE.same] at h; rw [IE.same_eq h.1, IE.same_eq h.2]
  | not a ih => intro b h; cases b <;> simp [BE.same] at h; rw [ih h]
  | and a b iha ihb => intro b h; cases b <;> simp [BE.same] at h; rw [iha h.1, ihb h.2]
  | or a b iha ihb => intro b h; cases b <;> simp [BE.same] at h; rw [iha h.1, ihb h.2]
  | beq a b iha ihb => intro b h; cases b <;> simp [BE.same] at h; rw [iha h.1, ihb h.2]
  | nil i => intro b h; cases b <;> simp_all [BE.same]

/-- what is known of a test on this way -/
def known (path : List (BE × Bool)) (b : BE) : Option Bool :=
  match b with
  | .lit r => some r
  | b => match path with
    | [] => none
    | (c, r) :: rest => if c.same b then some r else known rest b

/-! symbolic values -/
inductive SV where
  | var (i : Nat)
  | int (k : IntKind) (e : IE)
  | bool (b : BE)
  | ptr (i off : Nat)
  | elt (i off : Nat) (e : IE) (size off2 : Nat)
  | slc (i lo n c : Nat)
  | agg (l : List SV)
  | tuple (l : List SV)
  | fn (f : Nat) (l : List SV)
  | cst (v : Value)

def addO (a : Option Addr) (n : Nat) : Option Addr := a.map (·.add n)

mutual
def SV.den (ε : List Value) : SV → Value
  | .var i => nth ε i
  | .int k e => .int k (e.den ε)
  | .bool b => .bool (b.den ε)
  | .ptr i off => .pointer (addO (vaddr (nth ε i)) off)
  | .elt i off e size off2 => .pointer (addO (addO (addO (vaddr (nth ε i)) off) ((e.den ε).toNat * size)) off2)
  | .slc i lo n c => .slice (addO (vaddr (nth ε i)) lo) n c
  | .agg l => .agg (denL ε l).toArray
  | .tuple l => .tuple (denL ε l).toArray
  | .fn f l => .func (.func f) #[] (denL ε l).toArray
  | .cst v => v
def denL (ε : List Value) : List SV → List Value
  | [] => []
  | s :: l => s.den ε :: denL ε l
end

mutual
def SV.wf (n : Nat) : SV → Bool
  | .var i => Nat.blt i n
  | .int _ e => e.wf n
  | .bool b => b.wf n
  | .ptr i _ => Nat.blt i n
  | .elt i _ e _ _ => Nat.blt i n && e.wf n
  | .slc i _ _ _ => Nat.blt i n
  | .agg l => wfL n l
  | .tuple l => wfL n l
  | .fn _ l => wfL n l
  | .cst _ => true
def wfL (n : Nat) : List SV → Bool
  | [] => true
  | s :: l => s.wf n && wfL n l
end

theorem nth_append (ε δ : List Value) : ∀ i, Nat.blt i ε.length = true → nth (ε ++ δ) i = nth ε i := by
  induction ε with
  | nil => intro i h; simp at h
  | cons v ε ih =>
    intro i h
    cases i with
    | zero => rfl
    | succ i => exact ih i (by simp at h ⊢; omega)

theorem IE.den_append (ε δ : List Value) : ∀ (e : IE), e.wf ε.length = true → e.den (ε ++ δ) = e.den ε := by
  intro e
  induction e with
  | lit n => intro _; rfl
  | var i => intro h; simp only [IE.den]; rw [nth_append _ _ _ h]
  | len i => intro h; simp only [IE.den]; rw [nth_append _ _ _ h]
  | cap i => intro h; simp only [IE.den]; rw [nth_append _ _ _ h]
  | wrap k a ih => intro h; simp only [IE.den, ih h]
  | bit op k a b iha ihb => intro h; simp only [IE.wf, Bool.and_eq_true] at h; simp only [IE.den, iha h.1, ihb h.2]
  | shl k a b iha ihb => intro h; simp only [IE.wf, Bool.and_eq_true] at h; simp only [IE.den, iha h.1, ihb h.2]
  | shr k a b iha ihb => intro h; simp only [IE.wf, Bool.and_eq_true] at h; simp only [IE.den, iha h.1, ihb h.2]
  | _ a b iha ihb => intro h; simp only [IE.wf, Bool.and_eq_true] at h; simp only [IE.den, iha h.1, ihb h.2]

theorem BE.den_append (ε δ : List Value) : ∀ (e : BE), e.wf ε.length = true → e.den (ε ++ δ) = e.den ε := by
  intro e
  induction e with
  | lit n => intro _; rfl
  | var i => intro h; simp only [BE.den]; rw [nth_append _ _ _ h]
  | nil i => intro h; simp only [BE.den]; rw [nth_append _ _ _ h]
  | lt a b => intro h; simp only [BE.wf, Bool.and_eq_true] at h; simp only [BE.den, IE.den_append _ _ _ h.1, IE.den_append _ _ _ h.2]
  | le a b => intro h; simp only [BE.wf, Bool.and_eq_true] at h; simp only [BE.den, IE.den_append _ _ _ h.1, IE.den_append _ _ _ h.2]
  | eq a b => intro h; simp only [BE.wf, Bool.and_eq_true] at h; simp only [BE.den, IE.den_append _ _ _ h.1, IE.den_append _ _ _ h.2]
  | not a ih => intro h; simp only [BE.den, ih h]
  | _ a b iha ihb => intro h; simp only [BE.wf, Bool.and_eq_true] at h; simp only [BE.den, iha h.1, ihb h.2]

mutual
theorem SV.den_append (ε δ : List Value) : ∀ (s : SV), s.wf ε.length = true → s.den (ε ++ δ) = s.den ε
  | .var i, h => by simp only [SV.den]; exact nth_append _ _ _ h
  | .int k e, h => by simp only [SV.den]; rw [IE.den_append _ _ _ h]
  | .bool b, h => by simp only [SV.den]; rw [BE.den_append _ _ _ h]
  | .ptr i off, h => by simp only [SV.den]; rw [nth_append _ _ _ h]
  | .elt i off e size o2, h => by
    simp only [SV.wf, Bool.and_eq_true] at h
    simp only [SV.den]; rw [nth_append _ _ _ h.1, IE.den_append _ _ _ h.2]
  | .slc i lo n c, h => by simp only [SV.den]; rw [nth_append _ _ _ h]
  | .agg l, h => by simp only [SV.den]; rw [denL_append ε δ l h]
  | .tuple l, h => by simp only [SV.den]; rw [denL_append ε δ l h]
  | .fn f l, h => by simp only [SV.den]; rw [denL_append ε δ l h]
  | .cst v, _ => rfl
theorem denL_append (ε δ : List Value) : ∀ (l : List SV), wfL ε.length l = true → denL (ε ++ δ) l = denL ε l
  | [], _ => rfl
  | s :: l, h => by
    simp only [wfL, Bool.and_eq_true] at h
    simp only [denL]; rw [SV.den_append ε δ s h.1, denL_append ε δ l h.2]
end

theorem denL_map (ε : List Value) : ∀ l : List SV, denL ε l = l.map (SV.den ε)
  | [] => rfl
  | s :: l => by simp only [denL, List.map]; rw [denL_map ε l]

end Go.Sx

/- Part B of a symbolic run of Go code by computation: its states, conditions and the proof that a condition that holds says what the function returns. No conditions of its own. -/
set_option linter.unusedVariables false
set_option linter.unusedSimpArgs false
namespace Go.Sx
open Go.RowKit

/-! worlds -/
/-- but for the blocks in M, what was there is as it was -/
structure Kept (M : Nat → Prop) (w w' : World) : Prop where
  os : w'.os = w.os
  tape : w'.tape = w.tape
  output : w'.output = w.output
  size : w.heap.size ≤ w'.heap.size
  block : ∀ k, k < w.heap.size → ¬ M k → w'.heap[k]? = w.heap[k]?

theorem Kept.refl (M : Nat → Prop) (w : World) : Kept M w w := ⟨rfl, rfl, rfl, Nat.le_refl _, fun _ _ _ => rfl⟩
theorem Kept.trans {M : Nat → Prop} {a b c : World} (h : Kept M a b) (k : Kept M b c) : Kept M a c :=
  ⟨k.os.trans h.os, k.tape.trans h.tape, k.output.trans h.output, Nat.le_trans h.size k.size,
   fun i hi hm => (k.block i (Nat.lt_of_lt_of_le hi h.size) hm).trans (h.block i hi hm)⟩
theorem Kept.mono {M N : Nat → Prop} {a b : World} (h : Kept M a b) (hm : ∀ k, k < a.heap.size → M k → N k) : Kept N a b :=
  ⟨h.os, h.tape, h.output, h.size, fun i hi hn => h.block i hi (fun hk => hn (hm i hi hk))⟩
/-- two steps, the second of which may change what M or N name -/
theorem Kept.then {M N : Nat → Prop} {a b c : World} (h : Kept M a b) (k : Kept N b c) (hn : ∀ i, i < a.heap.size → N i → M i) : Kept M a c :=
  ⟨k.os.trans h.os, k.tape.trans h.tape, k.output.trans h.output, Nat.le_trans h.size k.size,
   fun i hi hm => (k.block i (Nat.lt_of_lt_of_le hi h.size) (fun hk => hm (hn i hi hk))).trans (h.block i hi hm)⟩
theorem Kept.below {M : Nat → Prop} {w w' : World} (h : Kept M w w') (hm : ∀ k, k < w.heap.size → ¬ M k) : Below w.heap.size w w' :=
  ⟨h.os, h.tape, h.output, h.size, fun k hk => h.block k hk (hm k hk)⟩
theorem Kept.cell {M : Nat → Prop} {w w' : World} (h : Kept M w w') {a : Addr} {v : Value} (hc : w.cell? a = some v) (hm : ¬ M a.block) : w'.cell? a = some v :=
  (World.cell?_of_block (h.block _ (World.block_lt_of_cell? w a hc) hm)).trans hc
theorem Kept.drew {M : Nat → Prop} {a w : World} (h : Kept M a w) : Kept M a w.drew := ⟨h.os, h.tape, h.output, h.size, h.block⟩
theorem Kept.alloc {M : Nat → Prop} {a w : World} (h : Kept M a w) (o : Obj) : Kept M a (w.alloc o) :=
  ⟨h.os, h.tape, h.output, by have := h.size; simp; omega, fun k hk hm => (Below.heap_alloc w o k (Nat.lt_of_lt_of_le hk h.size)).trans (h.block k hk hm)⟩

/-- nothing that was there is another -/
abbrev Same (w w' : World) : Prop := Kept (fun _ => False) w w'
def Obj.isRec : Obj → Bool
  | .loop _ => true
  | .deferred _ => true
  | _ => false
/-- the block holds a record of a range over a function -/
def IsRec (w : World) (b : Nat) : Prop := ∃ o, w.heap[b]? = some o ∧ Obj.isRec o = true
/-- but for such records, what was there is as it was -/
abbrev Quiet (w w' : World) : Prop := Kept (IsRec w) w w'

def blkOf (v : Value) : Option Nat := (vaddr v).map (·.block)

/-- p points to a block whose cells are these, none of them frozen -/
def HasBlk (w : World) (p : Value) (cells : List Value) : Prop :=
  ∃ b ty, p = .pointer (some ⟨b, 0, none⟩) ∧ w.heap[b]? = some (.cells cells.toArray ty (0, 0))

/-- the blocks of the variables in t -/
def BlkIn (ε : List Value) (t : List Nat) (b : Nat) : Prop := ∃ i, i ∈ t ∧ blkOf (nth ε i) = some b

/-! fresh variables by kind -/
inductive Base where
  | int (k : IntKind)
  | bool
  | slice
  | ptr
  | map
  | func
  | any

def isFn : Value → Bool
  | .func .. => true
  | .nilFunc => true
  | _ => false

def Base.fits : Base → Value → Prop
  | .int k, v => ∃ n, v = .int k n
  | .bool, v => ∃ b, v = .bool b
  | .slice, v => ∃ a n c, v = .slice a n c
  | .ptr, v => ∃ a, v = .pointer a
  | .map, v => ∃ r, v = .map r
  | .func, v => isFn v = true
  | .any, v => v.oneCell' = true

def Fits : List Base → List Value → Prop
  | [], [] => True
  | b :: bs, v :: vs => b.fits v ∧ Fits bs vs
  | _, _ => False

/-- for all values of these kinds -/
def allB : List Base → (List Value → Prop) → Prop
  | [], φ => φ []
  | .int k :: bs, φ => ∀ n : Int, allB bs (fun l => φ (.int k n :: l))
  | .bool :: bs, φ => ∀ b : Bool, allB bs (fun l => φ (.bool b :: l))
  | .slice :: bs, φ => ∀ (a : Option Addr) (n c : Nat), allB bs (fun l => φ (.slice a n c :: l))
  | .ptr :: bs, φ => ∀ a : Option Addr, allB bs (fun l => φ (.pointer a :: l))
  | .map :: bs, φ => ∀ r : Option Nat, allB bs (fun l => φ (.map r :: l))
  | .func :: bs, φ => ∀ v : Value, isFn v = true → allB bs (fun l => φ (v :: l))
  | .any :: bs, φ => ∀ v : Value, v.oneCell' = true → allB bs (fun l => φ (v :: l))

theorem allB_elim : ∀ {bs : List Base} {φ : List Value → Prop} {l : List Value}, allB bs φ → Fits bs l → φ l
  | [], φ, [], h, _ => h
  | .int k :: bs, φ, v :: l, h, hf => by
    obtain ⟨⟨n, rfl⟩, hf⟩ := hf
    exact allB_elim (φ := fun l => φ (.int k n :: l)) (h n) hf
  | .bool :: bs, φ, v :: l, h, hf => by
    obtain ⟨⟨n, rfl⟩, hf⟩ := hf
    exact allB_elim (φ := fun l => φ (.bool n :: l)) (h n) hf
  | .slice :: bs, φ, v :: l, h, hf => by
    obtain ⟨⟨a, n, c, rfl⟩, hf⟩ := hf
    exact allB_elim (φ := fun l => φ (.slice a n c :: l)) (h a n c) hf
  | .ptr :: bs, φ, v :: l, h, hf => by
    obtain ⟨⟨n, rfl⟩, hf⟩ := hf
    exact allB_elim (φ := fun l => φ (.pointer n :: l)) (h n) hf
  | .map :: bs, φ, v :: l, h, hf => by
    obtain ⟨⟨n, rfl⟩, hf⟩ := hf
    exact allB_elim (φ := fun l => φ (.map n :: l)) (h n) hf
  | .func :: bs, φ, v :: l, h, hf => allB_elim (φ := fun l => φ (v :: l)) (h v hf.1) hf.2
  | .any :: bs, φ, v :: l, h, hf => allB_elim (φ := fun l => φ (v :: l)) (h v hf.1) hf.2
  | [], _, _ :: _, _, hf => hf.elim
  | .int _ :: _, _, [], _, hf => hf.elim
  | .bool :: _, _, [], _, hf => hf.elim
  | .slice :: _, _, [], _, hf => hf.elim
  | .ptr :: _, _, [], _, hf => hf.elim
  | .map :: _, _, [], _, hf => hf.elim
  | .func :: _, _, [], _, hf => hf.elim
  | .any :: _, _, [], _, hf => hf.elim

theorem Fits.length : ∀ {bs : List Base} {l : List Value}, Fits bs l → l.length = bs.length
  | [], [], _ => rfl
  | _ :: bs, _ :: l, h => by simp [Fits.length (bs := bs) h.2]
  | [], _ :: _, h => h.elim
  | _ :: _, [], h => h.elim

/-! the conditions -/
abbrev Facts := List (Nat × List SV)

def FactsAt (ε : List Value) (w : World) : Facts → Prop
  | [] => True
  | (i, l) :: fs => HasBlk w (nth ε i) (denL ε l) ∧ FactsAt ε w fs

inductive VC where
  | bad (why : String)
  | leaf (i : Nat) (vs : List SV) (t : List Nat) (fs : Facts)
  | ob (p : BE) (k : VC)
  | split (b : BE) (x y : VC)
  | both (x y : VC)
  | start (drawn : Bool) (t t' : List Nat) (fs : Facts) (k : VC)
  | blk (k : VC)
  | load (a : SV) (bs : List Base) (k : VC)
  | pur (op : Op) (type : TypeId) (vals : List (Operand × SV)) (bs : List Base) (rv : SV) (k : VC)
  | call (f : Nat) (args : List SV) (bs : List Base) (rv : SV) (touch : Facts) (drawn : Bool) (t t' un : List Nat) (fs : Facts) (k : VC)
  | gen (op : Op) (type : TypeId) (vals : List (Operand × SV)) (bs : List Base) (rv : SV) (touch : Facts) (drawn : Bool) (t t' un : List Nat) (fs : Facts) (k : VC)
  | loop (i : Nat) (vs : List SV) (bs : List Base) (t t' : List Nat) (fs fs' : Facts) (k : VC)
  | leafM (i : Nat) (vs : List SV) (t : List Nat) (fs : Facts)
  | resume (t t' : List Nat) (fs : Facts) (k : VC)
  | range (i : Nat) (fv : SV) (ybs : List Base) (tys : List TypeId) (vs : List SV) (cbs : List Base) (t t' : List Nat) (fs fsa : Facts) (kb ka : VC)
  | cut (i : Nat) (bs : List Base) (t' : List Nat) (fs' : Facts) (ka kb : VC)

/-- what stays the same: the program, the world at the entry, the blocks that were there and may be changed, whether the records of ranges stay as they are; the same of the code around a round -/
structure Ctx where
  P : Program
  W0 : World
  M : Nat → Prop
  rc : Bool := false
  W1 : World := W0
  M1 : Nat → Prop := M
def Ctx.out (G : Ctx) : Ctx := { P := G.P, W0 := G.W1, M := G.M1, rc := true }
/-- the code of a round that begins at w', where w0 is what the one before left -/
def Ctx.round (G : Ctx) (w0 w' : World) (Ft : Nat → Prop) : Ctx := { P := G.P, W0 := w', M := fun b => b < w0.heap.size ∧ (b < G.W0.heap.size → G.M b) ∧ ¬ Ft b, rc := true, W1 := G.W0, M1 := G.M }

/-- a Go function with a body of its own -/
def goFunc (P : Program) (f : Nat) : Bool :=
  match P.funcs[f]? with
  | some fn => fn.body.isSome && !(fn.name == "runtime.NumGoroutine")
  | none => false

/-- the function g, with what it has captured, hands these to yield one after the other, till yield says no; it changes nothing, and reads no more than the blocks Ft -/
def SeqOk (P : Program) (g : Nat) (caps : Array Value) (w : World) (Ft : Nat → Prop) (ys : List (Array Value)) : Prop :=
  ∀ (l : Nat) (J : Nat → World → Prop) (Jx : World → Prop) (W : World),
    (∀ k W1, J k W1 → ∀ b, Ft b → W1.heap[b]? = w.heap[b]?) →
    (∀ k y W0 W1, ys[k]? = some y → J k W0 → Same W0 W1 → YieldAt Fence.wide 0 P l y W1 (fun e W' => ∃ v, e = .returned (.bool v) ∧ Kept (fun b => b < W0.heap.size ∧ ¬ Ft b) W1 W' ∧ (if v then J (k + 1) W' else Jx W'))) →
    J 0 W → Calls P g (#[.func (.yield l) #[] #[]] ++ caps) W (fun e W' => ∃ v, e = .returned v ∧ ∃ W0, (J ys.length W0 ∨ Jx W0) ∧ Same W0 W')

/-- the run of an operation ends in a value -/
def RunsTo (P : Program) (s : Sem Next) (w : World) (R : Value → World → Prop) : Prop :=
  (∃ v w', (s.run P w = .ok (.value v) w' ∨ (s.run P w = .ok .skip w' ∧ v = undef)) ∧ R v w') ∨
  (∃ l f tmps assign body w', s.run P w = .ok (.round l f tmps assign body) w' ∧ RoundIn Fence.wide 0 P l f tmps assign body w' (fun e w'' => ∃ v, e = .returned v ∧ R v w'')) ∨
  (∃ f args w', s.run P w = .ok (.enter f args) w' ∧ Calls P f args w' (fun e w'' => ∃ v, e = .returned v ∧ R v w''))
theorem RunsTo.mono {P : Program} {s : Sem Next} {w : World} {R R' : Value → World → Prop} (h : RunsTo P s w R) (hr : ∀ v w', R v w' → R' v w') : RunsTo P s w R' := by
  rcases h with ⟨v, w', h1, h2⟩ | ⟨l, f, tmps, assign, body, w', h1, h2⟩ | ⟨f, args, w', h1, h2⟩
  · exact .inl ⟨v, w', h1, hr _ _ h2⟩
  · exact .inr (.inl ⟨l, f, tmps, assign, body, w', h1, h2.mono fun e w'' ⟨v, he, hR⟩ => ⟨v, he, hr _ _ hR⟩⟩)
  · exact .inr (.inr ⟨f, args, w', h1, h2.mono fun e w'' ⟨v, he, hR⟩ => ⟨v, he, hr _ _ hR⟩⟩)

def bare (op : Op) (type : TypeId) : Oper := { dst := none, op := op, type := type, pos := "", after := #[], guard := none }

def ValsAt (ε : List Value) (ρ : Operand → Value) : List (Operand × SV) → Prop
  | [] => True
  | (x, s) :: l => ρ x = s.den ε ∧ ValsAt ε ρ l

def keys : Facts → List Nat
  | [] => []
  | (i, _) :: fs => i :: keys fs
/-- what holds of the world when it is shown -/
structure Shown (G : Ctx) (ε : List Value) (t : List Nat) (fs : Facts) (wx w : World) : Prop where
  kept : Kept (BlkIn ε t) wx w
  base : Kept G.M G.W0 w
  facts : FactsAt ε w fs
  dj : ∀ i j, i ∈ keys fs → j ∈ keys fs → i ≠ j → blkOf (nth ε i) ≠ blkOf (nth ε j)

/-- the values of these types whose cells are these -/
def yvals (P : Program) : List TypeId → List Value → List Value
  | [], _ => []
  | t :: ts, x => match (P.info? t).bind (·.zero) with
    | some (.agg cs) => .agg (x.take cs.size).toArray :: yvals P ts (x.drop cs.size)
    | _ => x.headD undef :: yvals P ts (x.drop 1)

/-- what an operation whose law alone is known may change -/
def FpOk (G : Ctx) (drawn : Bool) (X : Nat → Prop) (ε : List Value) (un : List Nat) (w : World) (b : Nat) : Prop :=
  (drawn = true → X b) ∧ (b < G.W0.heap.size → G.M b) ∧ ¬ BlkIn ε un b ∧ (G.rc = true → ¬ IsRec w b)

def VC.den (k : VC) (G : Ctx) (Λ : Nat → List Value → World → Prop) (ε : List Value) (wx ws : World) (X : Nat → Prop) : Prop :=
  match k with
  | .bad _ => False
  | .leaf i vs t fs => ∀ w, Shown G ε t fs wx w → Λ i (denL ε vs) w
  | .ob p k => p.den ε = true ∧ k.den G Λ ε wx ws X
  | .split b x y => (b.den ε = true → x.den G Λ ε wx ws X) ∧ (b.den ε = false → y.den G Λ ε wx ws X)
  | .both x y => x.den G Λ ε wx ws X ∧ y.den G Λ ε wx ws X
  | .start drawn t t' fs k => ∀ w, Shown G ε t fs wx w →
      if drawn then ∃ X : Nat → Prop, (∀ b, BlkIn ε t' b → X b) ∧ k.den G Λ ε w w X else k.den G Λ ε w w (BlkIn ε t')
  | .blk k => ∀ b, wx.heap.size ≤ b → ws.heap.size ≤ b → G.W0.heap.size ≤ b → k.den G Λ (ε ++ [.pointer (some ⟨b, 0, none⟩)]) wx ws X
  | .load a bs k => ∃ l, Fits bs l ∧ (∃ ad, a.den ε = .pointer (some ad) ∧ ¬ X ad.block ∧ ∀ j v, l[j]? = some v → ws.cell? (ad.add j) = some v) ∧ k.den G Λ (ε ++ l) wx ws X
  | .pur op type vals bs rv k => ∃ l, Fits bs l ∧ (∀ ρ, ValsAt ε ρ vals → ∀ w', Kept X ws w' → (execOp ρ (bare op type)).run G.P w' = .ok (.value (rv.den (ε ++ l))) w') ∧ k.den G Λ (ε ++ l) wx ws X
  | .call f args bs rv touch drawn t t' un fs k => ∀ w, Shown G ε t fs wx w →
      ∃ (R : List Value → World → Prop) (Fp : Nat → Prop),
        Calls G.P f (denL ε args).toArray w (fun e w' => ∃ l, Fits bs l ∧ e = .returned (rv.den (ε ++ l)) ∧ R l w' ∧ Kept Fp w w' ∧ FactsAt (ε ++ l) w' touch) ∧
        (∀ b, Fp b → b < w.heap.size → FpOk G drawn X ε un w b) ∧
        allB bs (fun l => ∀ w', R l w' → Kept Fp w w' → if drawn then k.den G Λ (ε ++ l) w' ws X else k.den G Λ (ε ++ l) w' w' (BlkIn ε t'))
  | .gen op type vals bs rv touch drawn t t' un fs k => ∀ w, Shown G ε t fs wx w →
      ∃ (R : List Value → World → Prop) (Fp : Nat → Prop),
        (∀ ρ, ValsAt ε ρ vals → RunsTo G.P (execOp ρ (bare op type)) w (fun v w' => ∃ l, Fits bs l ∧ v = rv.den (ε ++ l) ∧ R l w' ∧ Kept Fp w w' ∧ FactsAt (ε ++ l) w' touch)) ∧
        (∀ b, Fp b → b < w.heap.size → FpOk G drawn X ε un w b) ∧
        allB bs (fun l => ∀ w', R l w' → Kept Fp w w' → if drawn then k.den G Λ (ε ++ l) w' ws X else k.den G Λ (ε ++ l) w' w' (BlkIn ε t'))
  | .loop i vs bs t t' fs fs' k => ∀ w, Shown G ε t fs wx w →
      ∃ (I : List Value → World → Prop) (μ : List Value → World → Nat), I (denL ε vs) w ∧
        allB bs (fun l => ∀ w', I l w' → Kept G.M G.W0 w' → FactsAt (ε ++ l) w' fs' →
          k.den G (fun j vs' w'' => if j = i then I vs' w'' ∧ μ vs' w'' < μ l w' else Λ j vs' w'') (ε ++ l) w' w' (BlkIn (ε ++ l) t'))
  | .cut i bs t' fs' ka kb => ∃ I : List Value → World → Prop, ka.den G (fun j vs' w'' => if j = i then I vs' w'' else Λ j vs' w'') ε wx ws X ∧
        allB bs (fun l => ∀ w', I l w' → Kept G.M G.W0 w' → FactsAt (ε ++ l) w' fs' → kb.den G Λ (ε ++ l) w' w' (BlkIn (ε ++ l) t'))
  | .leafM i vs t fs => ∀ w, Shown G ε t fs wx w → ∀ w', Quiet w w' → Kept G.M G.W0 w' → Λ i (denL ε vs) w'
  | .resume t t' fs k => ∀ w, Shown G ε t fs wx w → ∀ w', Quiet w w' → Kept G.M1 G.W1 w' → k.den G.out Λ ε w' w' (BlkIn ε t')
  | .range i fv ybs tys vs cbs t t' fs fsa kb ka => ∀ w, Shown G ε t fs wx w →
      ∃ (g : Nat) (caps : List Value) (xs : List (List Value)) (I : Nat → List Value → World → Prop) (Ft : Nat → Prop),
        fv.den ε = .func (.func g) #[] caps.toArray ∧ goFunc G.P g = true ∧ (∀ x ∈ xs, Fits ybs x) ∧
        SeqOk G.P g caps.toArray w Ft (xs.map fun x => (yvals G.P tys x).toArray) ∧
        (∀ k l w', I k l w' → ∀ b, Ft b → w'.heap[b]? = w.heap[b]?) ∧ (∀ b, Ft b → b < w.heap.size ∧ ¬ IsRec w b ∧ ¬ BlkIn ε t' b) ∧
        I 0 (denL ε vs) w ∧
        (∀ k x, xs[k]? = some x → allB cbs (fun l => ∀ w0 w', I k l w0 → Quiet w0 w' → Kept G.M G.W0 w' → FactsAt (ε ++ l ++ x) w' fsa →
          kb.den (G.round w0 w' Ft) (fun j vs' w'' => if j = i then I (k + 1) vs' w'' else Λ j vs' w'') (ε ++ l ++ x) w' w' (BlkIn (ε ++ l ++ x) t'))) ∧
        allB cbs (fun l => ∀ w0 w', I xs.length l w0 → Quiet w0 w' → Kept G.M G.W0 w' → FactsAt (ε ++ l) w' fsa → ka.den G Λ (ε ++ l) w' w' (BlkIn (ε ++ l) t'))

end Go.Sx

/- Part C of a symbolic run of Go code by computation: its states, conditions and the proof that a condition that holds says what the function returns. No conditions of its own. -/
set_option linter.unusedVariables false
set_option linter.unusedSimpArgs false
namespace Go.Sx
open Go.RowKit

/-! the state of the symbolic run -/
structure St where
  tmps : List (Option SV)
  heap : Facts
  ks : List Base
  path : List (BE × Bool)
  t0 : List Nat
  drawn : Bool
  wr : Bool := false

def getL {α : Type} : List (Option α) → Nat → Option α
  | [], _ => none
  | x :: _, 0 => x
  | _ :: l, n + 1 => getL l n
def setL {α : Type} : List (Option α) → Nat → Option α → List (Option α)
  | [], _, _ => []
  | _ :: l, 0, v => v :: l
  | x :: l, n + 1, v => x :: setL l n v

def undefS : SV := .cst undef
def ofConst : Value → SV
  | .int k n => .int k (.lit n)
  | .bool b => .bool (.lit b)
  | v => .cst v

def St.ev (s : St) : Operand → Option SV
  | .tmp t => getL s.tmps t
  | .const v => some (ofConst v)
  | .global g => some (.cst (.pointer (some ⟨g, 0, none⟩)))
  | .func f => some (.fn f [])

def St.put (s : St) (dst : Option Tmp) (v : SV) : St :=
  match dst with
  | none => s
  | some d => { s with tmps := setL s.tmps d (some v) }

def findH : Facts → Nat → Option (List SV)
  | [], _ => none
  | (i, l) :: fs, j => if Nat.beq i j then some l else findH fs j
def setH : Facts → Nat → List SV → Facts
  | [], _, _ => []
  | (i, l) :: fs, j, m => if Nat.beq i j then (i, m) :: fs else (i, l) :: setH fs j m
def memN : Nat → List Nat → Bool
  | _, [] => false
  | i, j :: l => Nat.beq i j || memN i l
def addN (i : Nat) (l : List Nat) : List Nat := if memN i l then l else i :: l

def wfF (n : Nat) : Facts → Bool
  | [] => true
  | (i, l) :: fs => Nat.blt i n && wfL n l && wfF n fs
def wfT (n : Nat) : List (Option SV) → Bool
  | [] => true
  | none :: l => wfT n l
  | some s :: l => s.wf n && wfT n l
def wfN (n : Nat) : List Nat → Bool
  | [] => true
  | i :: l => Nat.blt i n && wfN n l

/-! the numbers -/
def kmin : IntKind → Int
  | .i8 => -128 | .i16 => -32768 | .i32 => -2147483648 | .i64 => -9223372036854775808 | _ => 0
def kmax : IntKind → Int
  | .i8 => 127 | .i16 => 32767 | .i32 => 2147483647 | .i64 => 9223372036854775807
  | .u8 => 255 | .u16 => 65535 | .u32 => 4294967295 | .u64 => 18446744073709551615

def mkAdd : IE → IE → IE
  | .lit a, .lit b => .lit (a + b)
  | a, b => .add a b
def mkSub : IE → IE → IE
  | .lit a, .lit b => .lit (a - b)
  | a, b => .sub a b
def mkMul : IE → IE → IE
  | .lit a, .lit b => .lit (a * b)
  | a, b => .mul a b
def mkLt : IE → IE → BE
  | .lit a, .lit b => .lit (decide (a < b))
  | a, b => .lt a b
def mkLe : IE → IE → BE
  | .lit a, .lit b => .lit (decide (a ≤ b))
  | a, b => .le a b
def mkEq : IE → IE → BE
  | .lit a, .lit b => .lit (decide (a = b))
  | a, b => .eq a b
def mkNot : BE → BE
  | .lit b => .lit (!b)
  | a => .not a

/-- what must hold, and then -/
def obs : List BE → VC → VC
  | [], k => k
  | .lit true :: l, k => obs l k
  | p :: l, k => .ob p (obs l k)

def inR (k : IntKind) (e : IE) : List BE := [mkLe (.lit (kmin k)) e, mkLe e (.lit (kmax k))]

/-! the types -/
def baseOf : Value → Base
  | .int k _ => .int k
  | .bool _ => .bool
  | .slice .. => .slice
  | .pointer _ => .ptr
  | .map _ => .map
  | .nilFunc => .func
  | .func .. => .func
  | _ => .any
def mkSV (n : Nat) : Base → SV
  | .int k => .int k (.var n)
  | .bool => .bool (.var n)
  | _ => .var n
def mkSVs : Nat → List Base → List SV
  | _, [] => []
  | n, b :: bs => mkSV n b :: mkSVs (n + 1) bs

/-- the kinds of the cells of a value of the type, and the value out of variables from n on -/
def freshTy (P : Program) (n : Nat) (t : TypeId) : Option (List Base × SV) :=
  match (P.info? t).bind (·.zero) with
  | some (.agg cs) => let bs := cs.toList.map baseOf; some (bs, .agg (mkSVs n bs))
  | some v => some ([baseOf v], mkSV n (baseOf v))
  | none => none
def freshTys (P : Program) : Nat → List TypeId → Option (List Base × List SV)
  | _, [] => some ([], [])
  | n, t :: ts =>
    match freshTy P n t with
    | none => none
    | some (bs, v) => match freshTys P (n + bs.length) ts with
      | none => none
      | some (bs', vs) => some (bs ++ bs', v :: vs)
def freshRes (P : Program) (n : Nat) (ts : List TypeId) : Option (List Base × SV) :=
  match ts with
  | [t] => freshTy P n t
  | ts => match freshTys P n ts with
    | none => none
    | some (bs, vs) => some (bs, .tuple vs)
/-- of a type that may be a tuple -/
def freshAny (P : Program) (n : Nat) (t : TypeId) : Option (List Base × SV) :=
  match P.underlying t with
  | some (.tuple ts) => match freshTys P n ts.toList with
    | none => none
    | some (bs, vs) => some (bs, .tuple vs)
  | _ => freshTy P n t

def isAggT (P : Program) (t : TypeId) : Option Bool :=
  match P.underlying t with
  | some (.struct _) => some true
  | some (.array _ _) => some true
  | some _ => some false
  | none => none
def sizeT (P : Program) (t : TypeId) : Option Nat := (P.info? t).map (·.size)
def zeroT (P : Program) (t : TypeId) : Option Value := (P.info? t).bind (·.zero)

/-- the zero value of the type has the type's own shape -/
def shapeOk (P : Program) (t : TypeId) : Bool :=
  match isAggT P t, zeroT P t, sizeT P t with
  | some true, some (.agg cs), some n => cs.size == n
  | some false, some v, some _ => v.oneCell'
  | _, _, _ => false

/-- the cells of a value of one cell or of an aggregate -/
def cellsS : SV → List SV
  | .agg l => l
  | v => [v]
/-- surely a value of one cell -/
def oneS (ks : List Base) : SV → Bool
  | .var i => Nat.blt i ks.length
  | .int .. => true
  | .bool _ => true
  | .ptr .. => true
  | .elt .. => true
  | .slc .. => true
  | .fn .. => true
  | .cst v => v.oneCell'
  | _ => false
def allOne (ks : List Base) : List SV → Bool
  | [] => true
  | s :: l => oneS ks s && allOne ks l
/-- a value that has well told cells: an aggregate of single cells, or a single cell -/
def cellsOk (ks : List Base) : SV → Bool
  | .agg l => allOne ks l
  | v => oneS ks v

def takeN {α : Type} : Nat → List α → List α
  | 0, _ => []
  | _ + 1, [] => []
  | n + 1, x :: l => x :: takeN n l
def dropN {α : Type} : Nat → List α → List α
  | 0, l => l
  | _ + 1, [] => []
  | n + 1, _ :: l => dropN n l
def fillS (cells : List SV) (off : Nat) (vals : List SV) : List SV := takeN off cells ++ vals ++ dropN (off + vals.length) cells

def nthB : List Base → Nat → Option Base
  | [], _ => none
  | b :: _, 0 => some b
  | _ :: l, n + 1 => nthB l n
def isSliceVar (ks : List Base) (i : Nat) : Bool :=
  match nthB ks i with
  | some .slice => true
  | _ => false
def isK (ks : List Base) (i : Nat) (b : Base) : Bool :=
  match nthB ks i, b with
  | some .slice, .slice => true
  | some .ptr, .ptr => true
  | some .map, .map => true
  | some .func, .func => true
  | _, _ => false
/-- a test against nil of the variable i, of the type -/
def nilRes (P : Program) (ks : List Base) (t : TypeId) (i : Nat) (c : Value) : Option BE :=
  match P.underlying t, c with
  | some (.pointer _), .pointer none => if isK ks i .ptr then some (.nil i) else none
  | some (.slice _), .slice none _ _ => if isK ks i .slice then some (.nil i) else none
  | some (.map ..), .map none => if isK ks i .map then some (.nil i) else none
  | some (.func ..), .nilFunc => if isK ks i .func then some (.nil i) else none
  | _, _ => none
/-- a pointer into a tracked block, against nil -/
def ptrNil (P : Program) (s : St) (t : TypeId) (i : Nat) (c : Value) : Bool :=
  match P.underlying t, c with
  | some (.pointer _), .pointer none => (findH s.heap i).isSome
  | _, _ => false
/-- nil against nil -/
def nilNil (P : Program) (t : TypeId) (c d : Value) : Bool :=
  match P.underlying t, c, d with
  | some (.pointer _), .pointer none, .pointer none => true
  | some (.slice _), .slice none _ _, .slice none _ _ => true
  | _, _, _ => false
def isPS (ks : List Base) (i : Nat) : Bool := isK ks i .ptr || isK ks i .slice
/-- what must hold for the variable i to hold an address -/
def pz (s : St) (i : Nat) : Option (List BE) :=
  if (findH s.heap i).isSome then some [] else
  if isPS s.ks i then some (match known s.path (.nil i) with | some false => [] | _ => [.not (.nil i)]) else none
def litN : IE → Option Nat
  | .lit (.ofNat n) => some n
  | _ => none

/-- the parts of a struct or an array literal laid over the zero value -/
def buildS (place : Nat → Option (Nat × Nat)) (cells : List SV) : List (Nat × SV) → Option (List SV)
  | [] => some cells
  | (i, v) :: rest =>
    match place i with
    | none => none
    | some (off, size) =>
      if (cellsS v).length == size && Nat.ble (off + size) cells.length then buildS place (fillS cells off (cellsS v)) rest else none

inductive Res where
  | val (p : List BE) (v : SV)
  | load (a : SV) (bs : List Base) (v : SV)
  | alloc (cells : List SV) (v : SV)
  | store (key off : Nat) (vs : List SV)
  | call (f : Nat) (args : List SV)
  | gen (vals : List (Operand × SV))
  | pur (vals : List (Operand × SV))
  | bad (s : String)

def cmpRes (op : BinOp) (a b : IE) : Option BE :=
  match op with
  | .eql => some (mkEq a b)
  | .neq => some (mkNot (mkEq a b))
  | .lss => some (mkLt a b)
  | .leq => some (mkLe a b)
  | .gtr => some (mkLt b a)
  | .geq => some (mkLe b a)
  | _ => none

def evs (s : St) : List Operand → Option (List SV)
  | [] => some []
  | x :: l => match s.ev x, evs s l with
    | some v, some vs => some (v :: vs)
    | _, _ => none
def pairsS (s : St) : List (Nat × Operand) → Option (List (Nat × SV))
  | [] => some []
  | (i, x) :: l => match s.ev x, pairsS s l with
    | some v, some vs => some ((i, v) :: vs)
    | _, _ => none
def valsS (s : St) : List Operand → Option (List (Operand × SV))
  | [] => some []
  | x :: l => match s.ev x, valsS s l with
    | some v, some vs => some ((x, v) :: vs)
    | _, _ => none
def allCells (ks : List Base) : List (Nat × SV) → Bool
  | [] => true
  | (_, v) :: l => cellsOk ks v && allCells ks l

/-- an operation that changes nothing: it computes, or reads -/
def readOnly : Op → Bool
  | .convert a b _ => !(Nat.beq a b)
  | .binOp .. => true
  | .slice .. => true
  | .index .. => true
  | .call { callee := .builtin .len, .. } => true
  | .call { callee := .builtin .cap, .. } => true
  | .call { callee := .builtin .min, .. } => true
  | .call { callee := .builtin .max, .. } => true
  | _ => false
def genRes (s : St) (op : Op) : Res :=
  match valsS s op.operands.toList with
  | some vs => if readOnly op then .pur vs else .gen vs
  | none => .bad "gen: an operand is not known"

def stepS (P : Program) (s : St) (op : Op) : Res :=
  match op with
  | .move x => match s.ev x with | some v => .val [] v | none => .bad "move"
  | .assign x => match s.ev x with | some v => .val [] v | none => .bad "assign"
  | .pick c a b =>
    match s.ev c with
    | some (.bool p) =>
      match known s.path p with
      | some true => (match s.ev a with | some v => .val [] v | none => .bad "pick")
      | some false => (match s.ev b with | some v => .val [] v | none => .bad "pick")
      | none => .bad "pick: not known which"
    | _ => .bad "pick"
  | .unOp .not _ x => match s.ev x with | some (.bool b) => .val [] (.bool (mkNot b)) | _ => .bad "not"
  | .unOp .neg _ x => match s.ev x with | some (.int k a) => let e := mkSub (.lit 0) a; .val (inR k e) (.int k e) | _ => .bad "neg"
  | .binOp op t x y _ =>
    match s.ev x, s.ev y with
    | some (.int k a), some (.int k' b) =>
      if k = k' then
        match op with
        | .add => let e := mkAdd a b; if k = .i64 ∧ s.wr = false then .val (inR k e) (.int k e) else .val [] (.int k (.wrap k e))
        | .sub => let e := mkSub a b; if k = .i64 ∧ s.wr = false then .val (inR k e) (.int k e) else .val [] (.int k (.wrap k e))
        | .mul => let e := mkMul a b; if k = .i64 ∧ s.wr = false then .val (inR k e) (.int k e) else .val [] (.int k (.wrap k e))
        | .quo => let e := IE.quo a b; .val (mkNot (mkEq b (.lit 0)) :: inR k e) (.int k e)
        | .rem => .val [mkNot (mkEq b (.lit 0))] (.int k (.rem a b))
        | .and => .val [] (.int k (.bit .and k a b))
        | .or => .val [] (.int k (.bit .or k a b))
        | .xor => .val [] (.int k (.bit .xor k a b))
        | .andNot => .val [] (.int k (.bit .andNot k a b))
        | .shl => .val [mkLe (.lit 0) b] (.int k (.shl k a b))
        | .shr => .val [mkLe (.lit 0) b] (.int k (.shr k a b))
        | op => match cmpRes op a b with | some p => .val [] (.bool p) | none => .bad "binOp"
      else match op with
        | .shl => .val [mkLe (.lit 0) b] (.int k (.shl k a b))
        | .shr => .val [mkLe (.lit 0) b] (.int k (.shr k a b))
        | _ => .bad "binOp: kinds"
    | some (.bool a), some (.bool b) =>
      match op, P.underlying t with
      | .eql, some .bool => .val [] (.bool (.beq a b))
      | .neq, some .bool => .val [] (.bool (.not (.beq a b)))
      | _, _ => .bad "binOp: bools"
    | some (.var i), some (.cst c) =>
      match op, nilRes P s.ks t i c with
      | .eql, some b => .val [] (.bool b)
      | .neq, some b => .val [] (.bool (mkNot b))
      | _, _ => genRes s (.binOp op t x y 0)
    | some (.ptr i _), some (.cst c) =>
      match op, ptrNil P s t i c with
      | .eql, true => .val [] (.bool (.lit false))
      | .neq, true => .val [] (.bool (.lit true))
      | _, _ => genRes s (.binOp op t x y 0)
    | some (.cst c), some (.cst d) =>
      match op, nilNil P t c d with
      | .eql, true => .val [] (.bool (.lit true))
      | .neq, true => .val [] (.bool (.lit false))
      | _, _ => genRes s (.binOp op t x y 0)
    | _, _ => genRes s (.binOp op t x y 0)
  | .convert src dst x =>
    match s.ev x, P.underlying src, P.underlying dst with
    | some (.int _ a), some (.int k'), some (.int k) =>
      if k = k' ∧ k = .i64 ∧ s.wr = false then .val (inR k a) (.int k a) else .val [] (.int k (.wrap k a))
    | _, _, _ => genRes s (.convert src dst x)
  | .makeFunc (.func f) first captured =>
    if first.toList.isEmpty then (match evs s captured.toList with | some vs => .val [] (.fn f vs) | none => .bad "makeFunc") else .bad "makeFunc: first"
  | .extract x ix => match s.ev x with
    | some (.tuple l) => match l[ix]? with | some v => .val [] v | none => .bad "extract"
    | _ => .bad "extract"
  | .nilCheck x => match s.ev x with
    | some (.var i) => if isK s.ks i .ptr then (match pz s i with | some q => .val q (.ptr i 0) | none => .bad "nilCheck") else .bad "nilCheck: no pointer"
    | some (.ptr i off) => (match pz s i with | some q => .val q (.ptr i off) | none => .bad "nilCheck")
    | some (.elt i o e z o2) => (match pz s i with | some q => .val q (.elt i o e z o2) | none => .bad "nilCheck")
    | some (.fn f l) => .val [] (.fn f l)
    | _ => .bad "nilCheck"
  | .fieldAddr t x f =>
    match P.underlying t with
    | some (.struct fields) =>
      match fields[f]? with
      | some fd =>
        match sizeT P fd.type with
        | some (_ + 1) => (match s.ev x with
          | some (.ptr i off) => (match pz s i with | some q => .val q (.ptr i (off + fd.offset)) | none => .bad "fieldAddr")
          | some (.elt i o e z o2) => (match pz s i with | some q => .val q (.elt i o e z (o2 + fd.offset)) | none => .bad "fieldAddr")
          | _ => .bad "fieldAddr")
        | _ => .bad "fieldAddr: size"
      | none => .bad "fieldAddr: field"
    | _ => .bad "fieldAddr: type"
  | .field t x f =>
    match P.underlying t with
    | some (.struct fields) =>
      match fields[f]? with
      | some fd =>
        match s.ev x, sizeT P fd.type with
        | some (.agg l), some n =>
          (match isAggT P fd.type with
          | some true => if Nat.ble (fd.offset + n) l.length then .val [] (.agg (takeN n (dropN fd.offset l))) else .bad "field: size"
          | some false => (match l[fd.offset]? with | some v => .val [] v | none => .bad "field")
          | none => .bad "field")
        | _, _ => .bad "field"
      | none => .bad "field"
    | _ => .bad "field"
  | .indexAddr t x ix =>
    match P.underlying t, s.ev x, s.ev ix with
    | some (.slice el), some (.var i), some (.int _ e) =>
      (match sizeT P el, pz s i with
      | some n, some q => if isSliceVar s.ks i then .val (mkLe (.lit 0) e :: mkLt e (.len i) :: q) (.elt i 0 e n 0) else .bad "indexAddr: no slice"
      | _, _ => .bad "indexAddr")
    | some (.slice el), some (.slc i lo m _), some (.int _ e) =>
      (match sizeT P el, pz s i with
      | some n, some q => (match litN e with
        | some j => if Nat.blt j m then .val q (.ptr i (lo + j * n)) else .bad "indexAddr: bound"
        | none => .val (mkLe (.lit 0) e :: mkLt e (.lit m) :: q) (.elt i lo e n 0))
      | _, _ => .bad "indexAddr")
    | some (.array m el), some (.ptr i lo), some (.int _ e) =>
      (match sizeT P el, pz s i with
      | some n, some q => (match litN e with
        | some j => if Nat.blt j m then .val q (.ptr i (lo + j * n)) else .bad "indexAddr: bound"
        | none => .val (mkLe (.lit 0) e :: mkLt e (.lit m) :: q) (.elt i lo e n 0))
      | _, _ => .bad "indexAddr")
    | _, _, _ => .bad "indexAddr"
  | .slice t x lo hi mx =>
    match P.underlying t, s.ev x, lo, hi, mx with
    | some (.array m el), some (.ptr i off), none, none, none =>
      (match sizeT P el, pz s i with | some _, some q => .val q (.slc i off m m) | _, _ => .bad "slice")
    | _, _, _, _, _ => genRes s (.slice t x lo hi mx)
  | .load t x =>
    match s.ev x, sizeT P t with
    | some (.ptr i off), some n =>
      (match findH s.heap i with
      | some cells =>
        (match isAggT P t with
        | some true => if Nat.ble (off + n) cells.length then .val [] (.agg (takeN n (dropN off cells))) else .bad "load: size"
        | some false => (match cells[off]? with | some v => .val [] v | none => .bad "load: off")
        | none => .bad "load")
      | none => match freshTy P s.ks.length t with | some (bs, v) => if shapeOk P t then .load (.ptr i off) bs v else .bad "load: shape" | none => .bad "load: type")
    | some (.elt i o e z o2), some _ => (match freshTy P s.ks.length t with | some (bs, v) => if shapeOk P t then .load (.elt i o e z o2) bs v else .bad "load: shape" | none => .bad "load: type")
    | _, _ => .bad "load"
  | .store t x y =>
    match s.ev x, s.ev y, sizeT P t with
    | some (.ptr i off), some v, some n =>
      (match findH s.heap i with
      | some cells =>
        if (cellsS v).length == n && Nat.ble (off + n) cells.length && cellsOk s.ks v then .store i off (cellsS v) else .bad "store"
      | none => genRes s (.store t x y))
    | some _, some _, some _ => genRes s (.store t x y)
    | _, _, _ => .bad "store"
  | .alloc t => match zeroT P t with | some z => .alloc (z.cells.toList.map ofConst) (.ptr s.ks.length 0) | none => .bad "alloc"
  | .box _ x => match s.ev x with | some v => if cellsOk s.ks v then .alloc (cellsS v) (.ptr s.ks.length 0) else .bad "box" | none => .bad "box"
  | .build t parts =>
    match zeroT P t, pairsS s parts.toList, P.underlying t with
    | some z, some ps, some (.struct fields) =>
      if allCells s.ks ps && fields.toList.all (fun fd => (sizeT P fd.type).isSome) then
        (match buildS (fun i => (fields[i]?).bind fun fd => (sizeT P fd.type).map fun n => (fd.offset, n)) (z.cells.toList.map ofConst) ps with
        | some l => .val [] (.agg l)
        | none => .bad "build")
      else .bad "build: cells"
    | some z, some ps, some (.array _ el) =>
      if allCells s.ks ps then
        (match sizeT P el with
        | some n => (match buildS (fun i => some (i * n, n)) (z.cells.toList.map ofConst) ps with
          | some l => .val [] (.agg l)
          | none => .bad "build")
        | none => .bad "build")
      else .bad "build: cells"
    | _, _, _ => .bad "build"
  | .buildSlice t m parts =>
    match P.underlying t, pairsS s parts.toList with
    | some (.slice el), some ps =>
      if allCells s.ks ps then
        (match sizeT P el, zeroT P el with
        | some n, some z =>
          if Nat.ble (m * n) 16777216 && z.cells.size == n then
            (match buildS (fun i => some (i * n, n)) ((List.range (m * n)).map fun j => ofConst (z.cells[j % n]!)) ps with
            | some l => .alloc l (.slc s.ks.length 0 m m)
            | none => .bad "buildSlice")
          else .bad "buildSlice: size"
        | _, _ => .bad "buildSlice")
      else .bad "buildSlice: cells"
    | _, _ => .bad "buildSlice"
  | .call { callee := .value fo, args, .. } =>
    match s.ev fo, evs s args.toList with
    | some (.fn f caps), some vs => if goFunc P f then .call f (vs ++ caps) else .bad "call: no Go function"
    | some (.var _), some _ => genRes s op
    | _, _ => .bad "call"
  | .call { callee := .builtin .len, args, argTypes } =>
    match evs s args.toList, (argTypes[0]?).bind P.underlying with
    | some [.var i], some (.slice _) => if isSliceVar s.ks i then .val [] (.int .i64 (.len i)) else .bad "len"
    | some [.slc _ _ n _], some (.slice _) => .val [] (.int .i64 (.lit n))
    | _, _ => genRes s op
  | .call { callee := .builtin .cap, args, argTypes } =>
    match evs s args.toList, (argTypes[0]?).bind P.underlying with
    | some [.var i], some (.slice _) => if isSliceVar s.ks i then .val [] (.int .i64 (.cap i)) else .bad "cap"
    | some [.slc _ _ _ c], some (.slice _) => .val [] (.int .i64 (.lit c))
    | _, _ => genRes s op
  | .call { callee := .builtin .min, args, .. } =>
    match evs s args.toList with
    | some [.int k a, .int _ b] => .val [] (.int k (.min a b))
    | _ => genRes s op
  | .call { callee := .builtin .max, args, .. } =>
    match evs s args.toList with
    | some [.int k a, .int _ b] => .val [] (.int k (.max a b))
    | _ => genRes s op
  | .call { callee := .invoke .., .. } => .bad "invoke"
  | .go _ => .bad "go"
  | .defer _ => .bad "defer"
  | .select .. => .bad "select"
  | .send .. => .bad "send"
  | .recv .. => .bad "recv"
  | .panic _ => .bad "panic"
  | .makeFunc .. => .bad "makeFunc"
  | op => genRes s op

end Go.Sx

/- Part D of a symbolic run of Go code by computation: its states, conditions and the proof that a condition that holds says what the function returns. No conditions of its own. -/
set_option linter.unusedVariables false
set_option linter.unusedSimpArgs false
namespace Go.Sx
open Go.RowKit

structure LoopInfo where
  i : Nat
  slots : List (Nat × Base)
  touch : List Nat

/-- what the symbolic run is told: the program; which arguments of a callee point to a block that it may change; the loops; the regions in which a tracked block changes -/
structure RangeInfo where
  i : Nat
  tys : List TypeId
  touch : List Nat

structure Cfg where
  P : Program
  ranged : Bool := false
  wraps : Bool := false
  ranges : Nat → Option RangeInfo := fun _ => none
  muts : Nat → List Nat := fun _ => []
  loops : Nat → Option LoopInfo := fun _ => none
  drops : Nat → List Nat := fun _ => []
  dropR : Nat → List Nat := fun _ => []
  joins : Nat → Option LoopInfo := fun _ => none
  dropJ : Nat → List Nat := fun _ => []
  vary : List Nat := []
  lastOut : Bool := false
  inRound : Bool := false
  live : List Nat := [0]

def noDefer (o : Oper) : Bool := match o.op with | .defer _ => false | _ => true

def wfPath (n : Nat) : List (BE × Bool) → Bool
  | [] => true
  | (b, _) :: l => b.wf n && wfPath n l
def wfS (s : St) : Bool := wfT s.ks.length s.tmps && wfF s.ks.length s.heap && wfN s.ks.length s.t0 && wfPath s.ks.length s.path

def sbase (ks : List Base) : SV → Base
  | .int k _ => .int k
  | .bool _ => .bool
  | .var i => match nthB ks i with | some b => b | none => .any
  | .slc .. => .slice
  | .ptr .. => .ptr
  | .elt .. => .ptr
  | .fn .. => .func
  | .cst v => baseOf v
  | _ => .any
def sbases (ks : List Base) : List SV → List Base
  | [] => []
  | s :: l => sbase ks s :: sbases ks l

/-- the tracked blocks that the arguments at these places point to -/
def touched (heap : Facts) (args : List SV) : List Nat → List Nat
  | [] => []
  | j :: l => match args[j]? with
    | some (.ptr i _) => if (findH heap i).isSome then i :: touched heap args l else touched heap args l
    | some (.slc i _ _ _) => if (findH heap i).isSome then i :: touched heap args l else touched heap args l
    | _ => touched heap args l
/-- their contents anew, out of variables from n on -/
def anew (ks : List Base) (heap : Facts) : Nat → List Nat → List Base × Facts
  | _, [] => ([], [])
  | n, i :: l => match findH heap i with
    | some cells => let bs := sbases ks cells; let r := anew ks heap (n + bs.length) l; (bs ++ r.1, (i, mkSVs n bs) :: r.2)
    | none => anew ks heap n l
def setAll : Facts → Facts → Facts
  | h, [] => h
  | h, (i, l) :: fs => setAll (setH h i l) fs
def without (l : List Nat) : List Nat → List Nat
  | [] => []
  | i :: r => if memN i l then without l r else i :: without l r

def afterS (s : St) (bs tbs : List Base) (tf : Facts) : St :=
  { s with ks := s.ks ++ (bs ++ tbs), heap := setAll s.heap tf, t0 := [] }

def isStore : Op → Bool
  | .store .. => true
  | .mapUpdate .. => true
  | .insert .. => true
  | .entryStore .. => true
  | _ => false

/-- what is known of nil behind the obligations -/
def nilPath : List BE → List (BE × Bool) → List (BE × Bool)
  | [], l => l
  | .not (.nil i) :: r, l => (.nil i, false) :: nilPath r l
  | _ :: r, l => nilPath r l

def inHeld : Option (List Nat) → Nat → Bool
  | some h, k => memN k h
  | none, _ => false
def offHeld : Option (List Nat) → List Nat → Bool
  | some h, l => l.all fun i => !memN i h
  | none, _ => true

/-- an element of an array that is tracked, its index not written out: where, the index, the elements' size and number -/
def idxOf (P : Program) (s : St) (op : Op) (v : SV) : Option (Nat × Nat × IE × Nat × Nat) :=
  match op, v with
  | .indexAddr t _ _, .elt i lo e n 0 =>
    if (findH s.heap i).isSome then
      match P.underlying t with
      | some (.array m _) => if Nat.ble m 16 then some (i, lo, e, n, m) else none
      | _ => none
    else none
  | _, _ => none
/-- one way for each index -/
def idxK (i lo : Nat) (e : IE) (n : Nat) (K : St → SV → VC) : Nat → Nat → St → VC
  | _, 0, _ => .bad "index"
  | j, r + 1, s =>
    match known s.path (.eq e (.lit (Int.ofNat j))) with
    | some true => K s (.ptr i (lo + j * n))
    | some false => idxK i lo e n K (j + 1) r s
    | none => .split (.eq e (.lit (Int.ofNat j))) (K { s with path := (.eq e (.lit (Int.ofNat j)), true) :: s.path } (.ptr i (lo + j * n)))
        (idxK i lo e n K (j + 1) r { s with path := (.eq e (.lit (Int.ofNat j)), false) :: s.path })
def valK (P : Program) (op : Op) (v : SV) (K : St → SV → VC) (s : St) : VC :=
  match idxOf P s op v with
  | some (i, lo, e, n, m) => idxK i lo e n K 0 m s
  | none => K s v

/-- blocks that are tracked no longer -/
def dropF (ks : List Nat) : Facts → Facts
  | [] => []
  | (i, l) :: fs => if memN i ks then dropF ks fs else (i, l) :: dropF ks fs
/-- a literal's row that is turned to its own type is marked: it is tracked no longer -/
def dropC (H : Option (List Nat)) (op : Op) (s : St) : St :=
  match H, op with
  | none, .convert a b x => if Nat.beq a b then (match s.ev x with | some (.slc k _ _ _) => { s with heap := dropF [k] s.heap } | _ => s) else s
  | _, _ => s
def exDo (c : Cfg) (H : Option (List Nat)) (o : Oper) (K : St → VC) (s : St) : VC :=
  match stepS c.P s o.op with
  | .val p v => obs p (valK c.P o.op v (fun s' v' => K (s'.put o.dst v')) { s with path := nilPath p s.path })
  | .load a bs v =>
    if wfS s then
      if s.drawn then .load a bs (K ({ s with ks := s.ks ++ bs }.put o.dst v))
      else .start false s.t0 [] s.heap (.load a bs (K ({ s with ks := s.ks ++ bs, t0 := [] }.put o.dst v)))
    else .bad "load: wf"
  | .alloc cells v =>
    if wfS s && wfL s.ks.length cells && allOne s.ks cells then .blk (K ({ s with ks := s.ks ++ [Base.ptr], heap := (s.ks.length, cells) :: s.heap }.put o.dst v)) else .bad "alloc: wf"
  | .store key off vs =>
    match findH s.heap key with
    | some cells =>
      if inHeld H key then .bad "store: in a drawn region" else
      K ({ s with heap := setH s.heap key (fillS cells off vs), t0 := addN key s.t0 }.put o.dst undefS)
    | none => .bad "store"
  | .call f args =>
    match c.P.funcs[f]? with
    | none => .bad "call"
    | some fn =>
      match freshRes c.P s.ks.length fn.resultTypes.toList with
      | none => .bad "call: result"
      | some (bs, rv) =>
        let tk := touched s.heap args (c.muts f)
        let r := anew s.ks s.heap (s.ks.length + bs.length) tk
        if wfS s && wfL s.ks.length args && offHeld H (keys r.2) then
          .call f args (bs ++ r.1) rv r.2 s.drawn s.t0 [] (without (keys r.2) (keys s.heap)) s.heap (K ((afterS s bs r.1 r.2).put o.dst rv))
        else .bad "call: wf"
  | .pur vals =>
    if wfS s && wfL s.ks.length (vals.map (·.2)) then
      match freshAny c.P s.ks.length o.type with
      | none => .bad "pur: result"
      | some (bs, rv) =>
        if s.drawn then .pur o.op o.type vals bs rv (K ({ s with ks := s.ks ++ bs }.put o.dst rv))
        else .start false s.t0 [] s.heap (.pur o.op o.type vals bs rv (K ({ s with ks := s.ks ++ bs, t0 := [] }.put o.dst rv)))
    else .bad "pur: wf"
  | .gen vals =>
    if wfS s && wfL s.ks.length (vals.map (·.2)) then
      if isStore o.op then
        .gen o.op o.type vals [] undefS [] s.drawn s.t0 [] (keys s.heap) s.heap (K ((afterS s [] [] []).put o.dst undefS))
      else match freshAny c.P s.ks.length o.type with
        | none => .bad "gen: result"
        | some (bs, rv) => .gen o.op o.type vals bs rv [] s.drawn s.t0 [] (keys (dropC H o.op s).heap) s.heap (K ((afterS (dropC H o.op s) bs [] []).put o.dst rv))
    else .bad "gen: wf"
  | .bad why => .bad why

def notBool : Value → Bool
  | .bool _ => false
  | _ => true

/-- what is known of an operation's guard: some r: decided; none: not yet -/
def guardS (ops : Array Oper) (o : Oper) (s : St) : Option Bool × Option BE :=
  match o.guard with
  | none => (some true, none)
  | some (j, want) =>
    match ((ops[j]?).bind (·.dst)).bind (getL s.tmps) with
    | some (.bool b) => match known s.path b with
      | some r => (some (r == want), none)
      | none => (none, some b)
    | some (.cst v) => if notBool v then (some false, none) else (none, none)
    | _ => (none, none)

def exOp (c : Cfg) (H : Option (List Nat)) (ops : Array Oper) (o : Oper) (K : St → VC) (s : St) : VC :=
  match o.guard with
  | none => exDo c H o K s
  | some (j, want) =>
    match ((ops[j]?).bind (·.dst)).bind (getL s.tmps) with
    | some (.bool b) =>
      match known s.path b with
      | some r => if r == want then exDo c H o K s else K (s.put o.dst undefS)
      | none =>
        .split b
          (if want then exDo c H o K { s with path := (b, true) :: s.path } else K ({ s with path := (b, true) :: s.path }.put o.dst undefS))
          (if want then K ({ s with path := (b, false) :: s.path }.put o.dst undefS) else exDo c H o K { s with path := (b, false) :: s.path })
    | some (.cst v) => if notBool v then K (s.put o.dst undefS) else .bad "guard"
    | _ => .bad "guard"

def exSeq (c : Cfg) (ops : Array Oper) : List Oper → (St → VC) → St → VC
  | [], K, s => K s
  | o :: r, K, s => exOp c none ops o (exSeq c ops r K) s

/-- the operation only computes, or reads what nobody in the region changes; or it is not known yet whether it is wanted -/
def quiet (c : Cfg) (h : List Nat) (ops : Array Oper) (o : Oper) (s : St) : Bool :=
  match guardS ops o s with
  | (some false, _) => true
  | (none, _) => true
  | (some true, _) =>
    match stepS c.P s o.op with
    | .val _ _ => (match o.op with
      | .load _ x => (match s.ev x with
        | some (.ptr i _) => !(findH s.heap i).isSome || memN i h
        | _ => true)
      | _ => true)
    | .load .. => true
    | .pur .. => true
    | _ => false

/-- one of them, whichever -/
def bothAll (f : Nat → VC) : List Nat → VC
  | [] => .bad "draw: none"
  | [i] => f i
  | i :: j :: l => .both (f i) (bothAll f (j :: l))

/-! which operations of a region are listed: those below p, and those of ex -/
def isL (p : Nat) (ex : List Nat) (i : Nat) : Bool := Nat.blt i p || memN i ex
def rangeFrom : Nat → Nat → List Nat
  | _, 0 => []
  | p, k + 1 => p :: rangeFrom (p + 1) k
/-- what it waits for is listed -/
def readyA (ops : Array Oper) (p : Nat) (ex : List Nat) (i : Nat) : Bool :=
  match ops[i]? with
  | some o => o.after.toList.all fun e => !Region.binds .any e || isL p ex e.on
  | none => false
def readyL (ops : Array Oper) (p : Nat) (ex : List Nat) : List Nat := (rangeFrom p (ops.size - p)).filter fun i => !memN i ex && readyA ops p ex i
def pairOk (ops : Array Oper) (oi : Oper) (i j : Nat) : Bool :=
  match ops[j]? with
  | some oj => oj.after.toList.any (fun e => Region.binds .any e && Nat.beq e.on i) || oi.apart ops oj
  | none => true
/-- all that is not listed waits for it, or is apart from it -/
def freeA (ops : Array Oper) (p : Nat) (ex : List Nat) (i : Nat) : Bool :=
  match ops[i]? with
  | some oi => (rangeFrom p (ops.size - p)).all fun j => Nat.beq j i || memN j ex || pairOk ops oi i j
  | none => false
/-- all that stands behind an operation waits for it, or is apart from it -/
def regOk (ops : Array Oper) : Bool :=
  (rangeFrom 0 ops.size).all fun i => match ops[i]? with
    | some oi => (rangeFrom (i + 1) (ops.size - (i + 1))).all fun j => pairOk ops oi i j
    | none => true
def advL : Nat → Nat → List Nat → Nat
  | 0, p, _ => p
  | k + 1, p, ex => if memN p ex then advL k (p + 1) ex else p
def putP (p : Nat) (ex : List Nat) (i : Nat) : Nat := if Nat.beq i p then advL ex.length (p + 1) ex else p
def putE (p : Nat) (ex : List Nat) (i : Nat) : List Nat := if Nat.beq i p then ex.filter (fun x => Nat.ble (putP p ex i) x) else i :: ex
def quietI (c : Cfg) (h : List Nat) (ops : Array Oper) (s : St) (i : Nat) : Bool := match ops[i]? with | some o => quiet c h ops o s | none => false
def pickQ (c : Cfg) (h : List Nat) (ops : Array Oper) (st : Bool) (p : Nat) (ex : List Nat) (s : St) : List Nat → Option Nat
  | [] => none
  | i :: l => if quietI c h ops s i && ((st && Nat.beq i p) || freeA ops p ex i) then some i else pickQ c h ops st p ex s l

/-- the tracked block into which an address leads, as far as the text tells -/
def chase (ops : List Oper) (s : St) : Nat → Operand → Option Nat
  | 0, _ => none
  | n + 1, x =>
    match s.ev x with
    | some (.ptr i _) => some i
    | some (.elt i _ _ _ _) => some i
    | some (.slc i _ _ _) => some i
    | _ => match x with
      | .tmp t => match ops.find? (fun o => o.dst == some t) with
        | some o => (match o.op with
          | .fieldAddr _ y _ => chase ops s n y
          | .indexAddr _ y _ => chase ops s n y
          | .nilCheck y => chase ops s n y
          | .move y => chase ops s n y
          | .load _ y => (match s.ev y with
            | some (.ptr j off) => (match (findH s.heap j).bind (·[off]?) with
              | some (.ptr i _) => some i
              | _ => none)
            | _ => none)
          | _ => none)
        | none => none
      | _ => none
def storedIn (ops : List Oper) (s : St) (i : Nat) : Bool := ops.any fun o => match o.op with
  | .store _ x _ => (match chase ops s 20 x with | some j => Nat.beq i j | none => false)
  | _ => false
/-- a call in the region may change the block -/
def calledIn (c : Cfg) (ops : List Oper) (s : St) (i : Nat) : Bool := ops.any fun o => match o.op with
  | .call { callee := .value (.func f), args, .. } => (c.muts f).any fun j => match args.toList[j]? with
    | some x => (match chase ops s 20 x with | some k => Nat.beq i k | none => false)
    | none => false
  | _ => false
/-- the tracked blocks that nobody in a region stores into -/
def heldS (c : Cfg) (ops : List Oper) (s : St) : List Nat := (keys s.heap).filter fun i => !(storedIn ops s i || calledIn c ops s i)

/-- the operation waits for all others -/
def lastA (ops : Array Oper) (i : Nat) : Bool :=
  match ops[i]? with
  | some o => (rangeFrom 0 ops.size).all fun j => Nat.beq j i || o.after.toList.any fun e => Region.binds .any e && Nat.beq e.on j
  | none => false
def exDraw (c : Cfg) (h : List Nat) (ops : Array Oper) (st : Bool) : Nat → Nat → List Nat → (St → VC) → St → VC
  | 0, _, _, _, _ => .bad "draw: fuel"
  | n + 1, p, ex, K, s =>
    if st && (!memN p ex && (readyA ops p ex p && quietI c h ops s p)) then
      match ops[p]? with
      | some o =>
        (match guardS ops o s with
        | (none, some b) => .split b (exDraw c h ops st n p ex K { s with path := (b, true) :: s.path }) (exDraw c h ops st n p ex K { s with path := (b, false) :: s.path })
        | _ => exOp c (some h) ops o (exDraw c h ops st n (putP p ex p) (putE p ex p) K) s)
      | none => .bad "draw"
    else
    match readyL ops p ex with
    | [] => K { s with drawn := false }
    | r :: rs =>
      match pickQ c h ops st p ex s (r :: rs) with
      | some i => (match ops[i]? with
        | some o =>
          (match guardS ops o s with
          | (none, some b) => .split b (exDraw c h ops st n p ex K { s with path := (b, true) :: s.path }) (exDraw c h ops st n p ex K { s with path := (b, false) :: s.path })
          | _ => exOp c (some h) ops o (exDraw c h ops st n (putP p ex i) (putE p ex i) K) s)
        | none => .bad "draw")
      | none => bothAll (fun i =>
          match ops[i]? with
          | some o => if c.lastOut && lastA ops i then exOp c none ops o K { s with drawn := false } else exOp c (some h) ops o (exDraw c h ops st n (putP p ex i) (putE p ex i) K) s
          | none => .bad "draw") (r :: rs)
def exDrawR (c : Cfg) (h : List Nat) (ops : Array Oper) (K : St → VC) (s : St) : VC :=
  match regOk ops with
  | true => exDraw c h ops true (2 * ops.size + 1) 0 [] K s
  | false => exDraw c h ops false (2 * ops.size + 1) 0 [] K s

inductive Ex where
  | ret
  | exit (id : Nat)
  | goto (l : Nat)

def firstReg : Code → Option Nat
  | .region id _ _ => some id
  | .seq a b => match firstReg a with | some i => some i | none => firstReg b
  | .cond _ a b => match firstReg a with | some i => some i | none => firstReg b
  | .block _ a => firstReg a
  | .loop a => firstReg a
  | .scope a => firstReg a
  | .rangeFunc _ _ a b => match firstReg a with | some i => some i | none => firstReg b
  | _ => none

def opWrites : List Oper → List Nat
  | [] => []
  | o :: r => match o.dst with | some d => d :: opWrites r | none => opWrites r
/-- the temporaries that a code may write -/
def writes : Code → List Nat
  | .region _ ops _ => opWrites ops.toList
  | .seq a b => writes a ++ writes b
  | .cond _ a b => writes a ++ writes b
  | .block _ a => writes a
  | .loop a => writes a
  | .scope a => writes a
  | .rangeFunc _ ps a b => ps.toList ++ writes a ++ writes b
  | _ => []

def forget : List (Option SV) → List Nat → List (Option SV)
  | t, [] => t
  | t, i :: l => forget (setL t i none) l
/-- a slot's new value: a pointer is one to a block that is not tracked -/
def mkSlot (n : Nat) : Base → SV
  | .ptr => .ptr n 0
  | b => mkSV n b
def putAll : List (Option SV) → Nat → List (Nat × Base) → List (Option SV)
  | t, _, [] => t
  | t, n, (i, b) :: l => putAll (setL t i (some (mkSlot n b))) (n + 1) l
def slotVals (t : List (Option SV)) : List (Nat × Base) → Option (List SV)
  | [] => some []
  | (i, _) :: l => match getL t i, slotVals t l with
    | some v, some vs => some (v :: vs)
    | _, _ => none
def touchKeys (t : List (Option SV)) (heap : Facts) : List Nat → Option (List Nat)
  | [] => some []
  | i :: l => match getL t i, touchKeys t heap l with
    | some (.ptr j _), some ks => if (findH heap j).isSome then some (j :: ks) else none
    | _, _ => none
def contents (heap : Facts) : List Nat → List SV
  | [] => []
  | i :: l => match findH heap i with | some c => c ++ contents heap l | none => contents heap l

/-- surely a value of the kind -/
def fitsS (ks : List Base) : Base → SV → Bool
  | .int k, .int k' _ => k == k'
  | .bool, .bool _ => true
  | .slice, .slc .. => true
  | .slice, .var i => isSliceVar ks i
  | .slice, .cst (.slice ..) => true
  | .ptr, .ptr .. => true
  | .ptr, .elt .. => true
  | .ptr, .var i => isK ks i .ptr
  | .ptr, .cst (.pointer _) => true
  | .map, .var i => isK ks i .map
  | .map, .cst (.map _) => true
  | .func, .fn .. => true
  | .func, .var i => isK ks i .func
  | .func, .cst .nilFunc => true
  | .any, v => oneS ks v
  | _, _ => false
def fitsAll (ks : List Base) : List Base → List SV → Bool
  | [], [] => true
  | b :: bs, v :: vs => fitsS ks b v && fitsAll ks bs vs
  | _, _ => false

def sameV : Value → Value → Bool
  | .int k n, .int k' m => k == k' && decide (n = m)
  | .bool a, .bool b => a == b
  | .pointer none, .pointer none => true
  | .slice none a b, .slice none c d => Nat.beq a c && Nat.beq b d
  | .map none, .map none => true
  | .nilFunc, .nilFunc => true
  | .tuple a, .tuple b => a.toList.isEmpty && b.toList.isEmpty
  | _, _ => false
mutual
def SV.same : SV → SV → Bool
  | .var i, .var j => Nat.beq i j
  | .int k e, .int k' e' => k == k' && e.same e'
  | .bool b, .bool b' => b.same b'
  | .ptr i o, .ptr j p => Nat.beq i j && Nat.beq o p
  | .slc a b c d, .slc e f g h => Nat.beq a e && Nat.beq b f && Nat.beq c g && Nat.beq d h
  | .elt i o e z q, .elt i' o' e' z' q' => Nat.beq i i' && Nat.beq o o' && e.same e' && Nat.beq z z' && Nat.beq q q'
  | .agg l, .agg m => sameL l m
  | .tuple l, .tuple m => sameL l m
  | .fn f l, .fn g m => Nat.beq f g && sameL l m
  | .cst v, .cst w => sameV v w
  | _, _ => false
def sameL : List SV → List SV → Bool
  | [], [] => true
  | a :: l, b :: m => a.same b && sameL l m
  | _, _ => false
end
/-- of the blocks of the first list all that are not among ks hold in the second what they held -/
def keptF (tk : List Nat) (now : Facts) : Facts → Bool
  | [] => true
  | (i, l) :: fs => (if memN i tk then true else match findH now i with | some m => sameL l m | none => false) && keptF tk now fs

/-- the told blocks hold as many cells as they did -/
def lensOk (was now : Facts) : List Nat → Bool
  | [] => true
  | i :: l => (match findH was i, findH now i with | some x, some y => Nat.beq x.length y.length | _, _ => false) && lensOk was now l
def putSt : St → List Nat → List SV → St
  | s, p :: ps, v :: vs => putSt (s.put (some p) v) ps vs
  | s, _, _ => s
/-- between two rounds; in one -/
def betweenS (s : St) (tk : List Nat) : St :=
  { s with heap := setAll s.heap (anew s.ks s.heap s.ks.length tk).2, ks := s.ks ++ (anew s.ks s.heap s.ks.length tk).1, t0 := [] }
/-- the assignments to the loop variables, where they are no more than that -/
def simpOps : List Oper → Option (List (Nat × Nat))
  | [] => some []
  | o :: r => match o.dst, o.op, o.guard, simpOps r with
    | some d, .assign (.tmp t), none, some l => some ((d, t) :: l)
    | _, _, _, _ => none
def simpA : Code → Option (List (Nat × Nat))
  | .skip => some []
  | .seq a b => match simpA a, simpA b with
    | some l, some m => some (l ++ m)
    | _, _ => none
  | .region _ ops false => simpOps ops.toList
  | _ => none
/-- a loop variable in cells of its own: the block is made, and the parameter stored into it -/
def boxOps : List Oper → Option (Nat × TypeId × Nat)
  | [o, p] => match o.dst, o.op, o.guard, p.dst, p.op, p.guard with
    | some d, .alloc T, none, none, .store T' (.tmp d') (.tmp t), none => if Nat.beq d d' && !Nat.beq d t && Nat.beq T T' then some (d, T, t) else none
    | _, _, _, _, _, _ => none
  | _ => none
def asgA (code : Code) : Option (List (Nat × Nat) × Option (Nat × TypeId × Nat)) :=
  match simpA code with
  | some l => some (l, none)
  | none => match code with
    | .region _ ops false => (match boxOps ops.toList with | some b => some ([], some b) | none => none)
    | _ => none
def boxS (P : Program) (s : St) : Option (Nat × TypeId × Nat) → Option St
  | none => some s
  | some (d, T, t) => match getL s.tmps t, zeroT P T, sizeT P T with
    | some v, some z, some n =>
      if Nat.blt d s.tmps.length && cellsOk s.ks v && Nat.beq (cellsS v).length n && Nat.beq z.cells.size n && wfS s && wfL s.ks.length (cellsS v) && allOne s.ks (cellsS v) then
        some ({ s with ks := s.ks ++ [Base.ptr], heap := (s.ks.length, cellsS v) :: s.heap }.put (some d) (.ptr s.ks.length 0))
      else none
    | _, _, _ => none
def boxK {α : Type} (bx : Option α) (k : VC) : VC := match bx with | none => k | some _ => .blk k
def putA : St → List (Nat × Nat) → Option St
  | s, [] => some s
  | s, (d, t) :: l => match getL s.tmps t with
    | some v => putA (s.put (some d) v) l
    | none => none
def roundS (s : St) (ybs : List Base) (ps : List Nat) (ysv : List SV) (l : List (Nat × Nat)) : Option St := putA (putSt { s with ks := s.ks ++ ybs } ps ysv) l
/-- but for the slots, what was known of the temporaries is so still -/
def keptT (sl : List Nat) : Nat → List (Option SV) → List (Option SV) → Bool
  | _, [], _ => true
  | n, none :: l, [] => false
  | n, some _ :: l, [] => false
  | n, none :: l, _ :: m => keptT sl (n + 1) l m
  | n, some v :: l, x :: m => (memN n sl || (match x with | some u => v.same u | none => false)) && keptT sl (n + 1) l m

def dropK (t : List (Option SV)) : List Nat → List Nat
  | [] => []
  | i :: l => match getL t i with
    | some (.ptr j _) => j :: dropK t l
    | _ => dropK t l
def dropS (s : St) (l : List Nat) : St := { s with heap := dropF (dropK s.tmps l) s.heap }
def dropsJ (c : Cfg) : Option Nat → List Nat
  | some r => c.dropJ r
  | none => []
def dropsOf (c : Cfg) : Option Nat → List Nat
  | some r => c.drops r
  | none => []

def exC (c : Cfg) : Nat → Code → (St → VC) → (Ex → St → VC) → St → VC
  | 0, _, _, _, _ => .bad "fuel"
  | n + 1, code, K, Kx, s =>
    match code with
    | .skip => K s
    | .label _ => K s
    | .region id ops draw =>
      if ops.toList.all noDefer then
        if draw then
          if wfS s && Region.noSelect ops then
            .start true s.t0 (keys s.heap) s.heap (exDrawR c (if memN id c.vary then [] else heldS c ops.toList s) ops K { s with drawn := true, t0 := [] })
          else .bad "draw: wf"
        else exSeq c ops ops.toList K s
      else .bad "region: defer" 
    | .seq a b =>
      match (firstReg b).bind c.joins with
      | none => exC c n a (fun s => exC c n b K Kx s) Kx s
      | some li =>
        (fun s0 : St => match touchKeys s0.tmps s0.heap li.touch with
        | some tk =>
          let bs := li.slots.map (·.2)
          let cs := contents s0.heap tk
          let cbs := sbases s0.ks cs
          let r := anew s0.ks s0.heap (s0.ks.length + bs.length) tk
          if wfS s0 && !memN li.i c.live then
            let s' : St := { s0 with
              tmps := putAll (forget s0.tmps (writes a)) s0.ks.length li.slots
              heap := setAll s0.heap r.2
              ks := s0.ks ++ (bs ++ r.1)
              t0 := [] }
            .cut li.i (bs ++ r.1) (keys s0.heap) s'.heap
              (exC { c with live := li.i :: c.live } n a (fun s2 =>
                match slotVals s2.tmps li.slots with
                | some vs2 =>
                  let cs2 := contents s2.heap tk
                  if wfS s2 && fitsAll s2.ks bs vs2 && fitsAll s2.ks cbs cs2 && keptF tk s2.heap s0.heap && lensOk s0.heap s2.heap tk && keptT (li.slots.map (·.1)) 0 s'.tmps s2.tmps && Nat.beq s2.tmps.length s'.tmps.length then
                    .leaf li.i (vs2 ++ cs2) s2.t0 s2.heap
                  else .bad "join: end"
                | none => .bad "join: slots at the end") Kx s0)
              (exC c n b K Kx s')
          else .bad "join: wf"
        | none => .bad "join: touch") (dropS s (dropsJ c (firstReg b)))
    | .cond x a b =>
      match s.ev x with
      | some (.bool p) =>
        match known s.path p with
        | some true => exC c n a K Kx s
        | some false => exC c n b K Kx s
        | none => .split p (exC c n a K Kx { s with path := (p, true) :: s.path }) (exC c n b K Kx { s with path := (p, false) :: s.path })
      | _ => .bad "cond"
    | .block id b => exC c n b K (fun e s => match e with
        | .exit j => if Nat.beq j id then K s else Kx (.exit j) s
        | e => Kx e s) s
    | .ret => Kx .ret s
    | .exit id => Kx (.exit id) s
    | .goto l => Kx (.goto l) s
    | .scope b =>
      if c.inRound then .bad "scope in a round" else
      exC c n b K (fun e s => match e with
        | .goto l => (match findLabel b l with
          | some rest => exC c n rest K (fun e s => match e with
            | .goto _ => .bad "goto"
            | e => Kx e s) s
          | none => .bad "goto: no label")
        | e => Kx e s) s
    | .loop b =>
      match (firstReg b).bind c.loops with
      | none => .bad "loop: not told"
      | some li =>
        (fun s0 : St => match slotVals s0.tmps li.slots, touchKeys s0.tmps s0.heap li.touch with
        | some vs, some tk =>
          let bs := li.slots.map (·.2)
          let cs := contents s0.heap tk
          let cbs := sbases s0.ks cs
          let r := anew s0.ks s0.heap (s0.ks.length + bs.length) tk
          if wfS s0 && wfL s0.ks.length vs && wfL s0.ks.length cs && fitsAll s0.ks bs vs && fitsAll s0.ks cbs cs && !memN li.i c.live then
            let s' : St := { s0 with
              tmps := putAll (forget s0.tmps (writes b)) s0.ks.length li.slots
              heap := setAll s0.heap r.2
              ks := s0.ks ++ (bs ++ r.1)
              t0 := [] }
            .loop li.i (vs ++ cs) (bs ++ r.1) s.t0 (keys s0.heap) s.heap s'.heap
              (exC { c with live := li.i :: c.live } n b (fun s2 =>
                match slotVals s2.tmps li.slots with
                | some vs2 =>
                  let cs2 := contents s2.heap tk
                  if wfS s2 && fitsAll s2.ks bs vs2 && fitsAll s2.ks cbs cs2 && keptF tk s2.heap s0.heap && lensOk s0.heap s2.heap tk && keptT (li.slots.map (·.1)) 0 s'.tmps s2.tmps && Nat.beq s2.tmps.length s'.tmps.length then
                    .leaf li.i (vs2 ++ cs2) s2.t0 s2.heap
                  else .bad "loop: round"
                | none => .bad "loop: slots at the end") Kx s')
          else .bad "loop: fits"
        | _, _ => .bad "loop: slots") (dropS s (dropsOf c (firstReg b)))
    | .rangeFunc f ps assign body =>
      if c.inRound || !c.ranged then .bad "rangeFunc: here" else
      match f with
      | .tmp ft =>
        match c.ranges ft, asgA assign with
        | some ri, some (al, bx) =>
          (fun s0 : St => match s0.ev f, touchKeys s0.tmps s0.heap ri.touch with
          | some fv, some tk =>
            let cs := contents s0.heap tk
            let ra := anew s0.ks s0.heap s0.ks.length tk
            let sa := betweenS s0 tk
            match freshTys c.P sa.ks.length ri.tys with
            | some (ybs, ysv) =>
              match roundS sa ybs ps.toList ysv al with
              | none => .bad "range: assignment"
              | some sb0 =>
              match boxS c.P sb0 bx with
              | none => .bad "range: box"
              | some sb =>
              if wfS s0 && fv.wf s0.ks.length && wfL s0.ks.length cs && fitsAll s0.ks (sbases s0.ks cs) cs && wfS sa && Nat.beq ps.size ysv.length && Nat.beq ysv.length ri.tys.length && !memN ri.i c.live then
                .range ri.i fv ybs ri.tys cs ra.1 s.t0 (keys s0.heap) s.heap sa.heap
                  (boxK bx (exC { c with live := ri.i :: c.live, inRound := true } n body (fun s2 =>
                    let cs2 := contents s2.heap tk
                    if wfS s2 && fitsAll s2.ks (sbases s0.ks cs) cs2 && keptF tk s2.heap s0.heap && lensOk s0.heap s2.heap tk then
                      .leaf ri.i cs2 s2.t0 s2.heap
                    else .bad "range: round")
                    (fun e s2 => .resume s2.t0 (keys s2.heap) s2.heap (Kx e { s2 with tmps := s0.tmps, t0 := [] }))
                    sb))
                  (K sa)
              else .bad "range: fits"
            | none => .bad "range: types"
          | _, _ => .bad "range: values") (dropS s (c.dropR ft))
        | _, _ => .bad "range: not told"
      | _ => .bad "range: operand"
    | .refuse why => .bad why

/-- the results of a function -/
def resS (P : Program) (s : St) : List ResultVar → Option (List SV)
  | [] => some []
  | .tmp t :: l => match getL s.tmps t, resS P s l with
    | some v, some vs => some (v :: vs)
    | _, _ => none
  | .cell a t :: l =>
    match getL s.tmps a, resS P s l, sizeT P t with
    | some (.ptr i off), some vs, some n =>
      (match findH s.heap i with
      | some cells =>
        (match isAggT P t with
        | some true => if Nat.ble (off + n) cells.length then some (.agg (takeN n (dropN off cells)) :: vs) else none
        | some false => (match cells[off]? with | some v => some (v :: vs) | none => none)
        | none => none)
      | none => none)
    | _, _, _ => none
def retS (ranged : Bool) (P : Program) (fn : Func) (s : St) : VC :=
  match resS P s fn.results.toList with
  | some [v] => if wfS s && v.wf s.ks.length then (if ranged then .leafM 0 [v] s.t0 s.heap else .leaf 0 [v] s.t0 s.heap) else .bad "ret: wf"
  | some vs => if wfS s && wfL s.ks.length vs then (if ranged then .leafM 0 [.tuple vs] s.t0 s.heap else .leaf 0 [.tuple vs] s.t0 s.heap) else .bad "ret: wf"
  | none => .bad "ret"

def padS : Nat → List (Option SV)
  | 0 => []
  | n + 1 => some undefS :: padS n

/-- the run of a function from its entry: ks, heap: what is known at the start -/
def exFn (c : Cfg) (f : Nat) (args : List SV) (ks : List Base) (heap : Facts) : VC :=
  match c.P.funcs[f]? with
  | none => .bad "no such function"
  | some fn =>
    match fn.body with
    | none => .bad "no body"
    | some b =>
      exC c 300 b (retS c.ranged c.P fn) (fun e s => match e with | .ret => retS c.ranged c.P fn s | _ => .bad "exit")
        { tmps := args.map some ++ padS (fn.ntmps - args.length), heap := heap, ks := ks, path := [], t0 := [], drawn := false, wr := c.wraps }

end Go.Sx
