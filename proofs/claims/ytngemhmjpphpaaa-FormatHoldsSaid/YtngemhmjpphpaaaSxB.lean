/- Part B of a symbolic run of Go code by computation: its states, conditions and the proof that a condition that holds says what the function returns. No conditions of its own. -/
import Derived.Test.YtngemhmjpphpaaaSxA
import Derived.RangeFuncLeaves
import Derived.RangeFuncRecord
import Derived.RangeFuncSeq
set_option linter.unusedVariables false
set_option linter.unusedSimpArgs false
namespace Go.Sx
open Go.RowKit

/-! worlds -/
/-- but for the blocks in M, what was there is as it was -/
structure Kept (M : Nat → Prop) (w w' : World) : Prop where
  os : w'.os = w.os
  tape : w'.tape = w.tape
  output : w'.output = w.output
  size : w.heap.size ≤ w'.heap.size
  block : ∀ k, k < w.heap.size → ¬ M k → w'.heap[k]? = w.heap[k]?

theorem Kept.refl (M : Nat → Prop) (w : World) : Kept M w w := ⟨rfl, rfl, rfl, Nat.le_refl _, fun _ _ _ => rfl⟩
theorem Kept.trans {M : Nat → Prop} {a b c : World} (h : Kept M a b) (k : Kept M b c) : Kept M a c :=
  ⟨k.os.trans h.os, k.tape.trans h.tape, k.output.trans h.output, Nat.le_trans h.size k.size,
   fun i hi hm => (k.block i (Nat.lt_of_lt_of_le hi h.size) hm).trans (h.block i hi hm)⟩
theorem Kept.mono {M N : Nat → Prop} {a b : World} (h : Kept M a b) (hm : ∀ k, k < a.heap.size → M k → N k) : Kept N a b :=
  ⟨h.os, h.tape, h.output, h.size, fun i hi hn => h.block i hi (fun hk => hn (hm i hi hk))⟩
/-- two steps, the second of which may change what M or N name -/
theorem Kept.then {M N : Nat → Prop} {a b c : World} (h : Kept M a b) (k : Kept N b c) (hn : ∀ i, i < a.heap.size → N i → M i) : Kept M a c :=
  ⟨k.os.trans h.os, k.tape.trans h.tape, k.output.trans h.output, Nat.le_trans h.size k.size,
   fun i hi hm => (k.block i (Nat.lt_of_lt_of_le hi h.size) (fun hk => hm (hn i hi hk))).trans (h.block i hi hm)⟩
theorem Kept.of_below {w w' : World} (h : Below w.heap.size w w') : Kept (fun _ => False) w w' := ⟨h.os, h.tape, h.output, h.size, fun k hk _ => h.block k hk⟩
theorem Kept.below {M : Nat → Prop} {w w' : World} (h : Kept M w w') (hm : ∀ k, k < w.heap.size → ¬ M k) : Below w.heap.size w w' :=
  ⟨h.os, h.tape, h.output, h.size, fun k hk => h.block k hk (hm k hk)⟩
theorem Kept.cell {M : Nat → Prop} {w w' : World} (h : Kept M w w') {a : Addr} {v : Value} (hc : w.cell? a = some v) (hm : ¬ M a.block) : w'.cell? a = some v :=
  (World.cell?_of_block (h.block _ (World.block_lt_of_cell? w a hc) hm)).trans hc
theorem Kept.drew {M : Nat → Prop} {a w : World} (h : Kept M a w) : Kept M a w.drew := ⟨h.os, h.tape, h.output, h.size, h.block⟩
theorem Kept.alloc {M : Nat → Prop} {a w : World} (h : Kept M a w) (o : Obj) : Kept M a (w.alloc o) :=
  ⟨h.os, h.tape, h.output, by have := h.size; simp; omega, fun k hk hm => (Below.heap_alloc w o k (Nat.lt_of_lt_of_le hk h.size)).trans (h.block k hk hm)⟩

/-- nothing that was there is another -/
abbrev Same (w w' : World) : Prop := Kept (fun _ => False) w w'
def Obj.isRec : Obj → Bool
  | .loop _ => true
  | .deferred _ => true
  | _ => false
/-- the block holds a record of a range over a function -/
def IsRec (w : World) (b : Nat) : Prop := ∃ o, w.heap[b]? = some o ∧ Obj.isRec o = true
/-- but for such records, what was there is as it was -/
abbrev Quiet (w w' : World) : Prop := Kept (IsRec w) w w'

def blkOf (v : Value) : Option Nat := (vaddr v).map (·.block)

/-- p points to a block whose cells are these, none of them frozen -/
def HasBlk (w : World) (p : Value) (cells : List Value) : Prop :=
  ∃ b ty, p = .pointer (some ⟨b, 0, none⟩) ∧ w.heap[b]? = some (.cells cells.toArray ty (0, 0))

/-- the blocks of the variables in t -/
def BlkIn (ε : List Value) (t : List Nat) (b : Nat) : Prop := ∃ i, i ∈ t ∧ blkOf (nth ε i) = some b

/-! fresh variables by kind -/
inductive Base where
  | int (k : IntKind)
  | bool
  | slice
  | ptr
  | map
  | func
  | any

def isFn : Value → Bool
  | .func .. => true
  | .nilFunc => true
  | _ => false

def Base.fits : Base → Value → Prop
  | .int k, v => ∃ n, v = .int k n
  | .bool, v => ∃ b, v = .bool b
  | .slice, v => ∃ a n c, v = .slice a n c
  | .ptr, v => ∃ a, v = .pointer a
  | .map, v => ∃ r, v = .map r
  | .func, v => isFn v = true
  | .any, v => v.oneCell' = true

def Fits : List Base → List Value → Prop
  | [], [] => True
  | b :: bs, v :: vs => b.fits v ∧ Fits bs vs
  | _, _ => False

/-- for all values of these kinds -/
def allB : List Base → (List Value → Prop) → Prop
  | [], φ => φ []
  | .int k :: bs, φ => ∀ n : Int, allB bs (fun l => φ (.int k n :: l))
  | .bool :: bs, φ => ∀ b : Bool, allB bs (fun l => φ (.bool b :: l))
  | .slice :: bs, φ => ∀ (a : Option Addr) (n c : Nat), allB bs (fun l => φ (.slice a n c :: l))
  | .ptr :: bs, φ => ∀ a : Option Addr, allB bs (fun l => φ (.pointer a :: l))
  | .map :: bs, φ => ∀ r : Option Nat, allB bs (fun l => φ (.map r :: l))
  | .func :: bs, φ => ∀ v : Value, isFn v = true → allB bs (fun l => φ (v :: l))
  | .any :: bs, φ => ∀ v : Value, v.oneCell' = true → allB bs (fun l => φ (v :: l))

theorem allB_elim : ∀ {bs : List Base} {φ : List Value → Prop} {l : List Value}, allB bs φ → Fits bs l → φ l
  | [], φ, [], h, _ => h
  | .int k :: bs, φ, v :: l, h, hf => by
    obtain ⟨⟨n, rfl⟩, hf⟩ := hf
    exact allB_elim (φ := fun l => φ (.int k n :: l)) (h n) hf
  | .bool :: bs, φ, v :: l, h, hf => by
    obtain ⟨⟨n, rfl⟩, hf⟩ := hf
    exact allB_elim (φ := fun l => φ (.bool n :: l)) (h n) hf
  | .slice :: bs, φ, v :: l, h, hf => by
    obtain ⟨⟨a, n, c, rfl⟩, hf⟩ := hf
    exact allB_elim (φ := fun l => φ (.slice a n c :: l)) (h a n c) hf
  | .ptr :: bs, φ, v :: l, h, hf => by
    obtain ⟨⟨n, rfl⟩, hf⟩ := hf
    exact allB_elim (φ := fun l => φ (.pointer n :: l)) (h n) hf
  | .map :: bs, φ, v :: l, h, hf => by
    obtain ⟨⟨n, rfl⟩, hf⟩ := hf
    exact allB_elim (φ := fun l => φ (.map n :: l)) (h n) hf
  | .func :: bs, φ, v :: l, h, hf => allB_elim (φ := fun l => φ (v :: l)) (h v hf.1) hf.2
  | .any :: bs, φ, v :: l, h, hf => allB_elim (φ := fun l => φ (v :: l)) (h v hf.1) hf.2
  | [], _, _ :: _, _, hf => hf.elim
  | .int _ :: _, _, [], _, hf => hf.elim
  | .bool :: _, _, [], _, hf => hf.elim
  | .slice :: _, _, [], _, hf => hf.elim
  | .ptr :: _, _, [], _, hf => hf.elim
  | .map :: _, _, [], _, hf => hf.elim
  | .func :: _, _, [], _, hf => hf.elim
  | .any :: _, _, [], _, hf => hf.elim

theorem Fits.length : ∀ {bs : List Base} {l : List Value}, Fits bs l → l.length = bs.length
  | [], [], _ => rfl
  | _ :: bs, _ :: l, h => by simp [Fits.length (bs := bs) h.2]
  | [], _ :: _, h => h.elim
  | _ :: _, [], h => h.elim

/-! the conditions -/
abbrev Facts := List (Nat × List SV)

def FactsAt (ε : List Value) (w : World) : Facts → Prop
  | [] => True
  | (i, l) :: fs => HasBlk w (nth ε i) (denL ε l) ∧ FactsAt ε w fs

inductive VC where
  | bad (why : String)
  | leaf (i : Nat) (vs : List SV) (t : List Nat) (fs : Facts)
  | ob (p : BE) (k : VC)
  | split (b : BE) (x y : VC)
  | both (x y : VC)
  | start (drawn : Bool) (t t' : List Nat) (fs : Facts) (k : VC)
  | blk (k : VC)
  | load (a : SV) (bs : List Base) (k : VC)
  | pur (op : Op) (type : TypeId) (vals : List (Operand × SV)) (bs : List Base) (rv : SV) (k : VC)
  | call (f : Nat) (args : List SV) (bs : List Base) (rv : SV) (touch : Facts) (drawn : Bool) (t t' un : List Nat) (fs : Facts) (k : VC)
  | gen (op : Op) (type : TypeId) (vals : List (Operand × SV)) (bs : List Base) (rv : SV) (touch : Facts) (drawn : Bool) (t t' un : List Nat) (fs : Facts) (k : VC)
  | loop (i : Nat) (vs : List SV) (bs : List Base) (t t' : List Nat) (fs fs' : Facts) (k : VC)
  | leafM (i : Nat) (vs : List SV) (t : List Nat) (fs : Facts)
  | resume (t t' : List Nat) (fs : Facts) (k : VC)
  | range (i : Nat) (fv : SV) (ybs : List Base) (tys : List TypeId) (vs : List SV) (cbs : List Base) (t t' : List Nat) (fs fsa : Facts) (kb ka : VC)
  | cut (i : Nat) (bs : List Base) (t' : List Nat) (fs' : Facts) (ka kb : VC)

/-- what stays the same: the program, the world at the entry, the blocks that were there and may be changed, whether the records of ranges stay as they are; the same of the code around a round -/
structure Ctx where
  P : Program
  W0 : World
  M : Nat → Prop
  rc : Bool := false
  W1 : World := W0
  M1 : Nat → Prop := M
def Ctx.out (G : Ctx) : Ctx := { P := G.P, W0 := G.W1, M := G.M1, rc := true }
/-- the code of a round that begins at w', where w0 is what the one before left -/
def Ctx.round (G : Ctx) (w0 w' : World) (Ft : Nat → Prop) : Ctx := { P := G.P, W0 := w', M := fun b => b < w0.heap.size ∧ (b < G.W0.heap.size → G.M b) ∧ ¬ Ft b, rc := true, W1 := G.W0, M1 := G.M }

/-- a Go function with a body of its own -/
def goFunc (P : Program) (f : Nat) : Bool :=
  match P.funcs[f]? with
  | some fn => fn.body.isSome && !(fn.name == "runtime.NumGoroutine")
  | none => false

/-- the function g, with what it has captured, hands these to yield one after the other, till yield says no; it changes nothing, and reads no more than the blocks Ft -/
def SeqOk (P : Program) (g : Nat) (caps : Array Value) (w : World) (Ft : Nat → Prop) (ys : List (Array Value)) : Prop :=
  ∀ (l : Nat) (J : Nat → World → Prop) (Jx : World → Prop) (W : World),
    (∀ k W1, J k W1 → ∀ b, Ft b → W1.heap[b]? = w.heap[b]?) →
    (∀ k y W0 W1, ys[k]? = some y → J k W0 → Same W0 W1 → YieldAt Fence.wide 0 P l y W1 (fun e W' => ∃ v, e = .returned (.bool v) ∧ Kept (fun b => b < W0.heap.size ∧ ¬ Ft b) W1 W' ∧ (if v then J (k + 1) W' else Jx W'))) →
    J 0 W → Calls P g (#[.func (.yield l) #[] #[]] ++ caps) W (fun e W' => ∃ v, e = .returned v ∧ ∃ W0, (J ys.length W0 ∨ Jx W0) ∧ Same W0 W')

/-- the run of an operation ends in a value -/
def RunsTo (P : Program) (s : Sem Next) (w : World) (R : Value → World → Prop) : Prop :=
  (∃ v w', (s.run P w = .ok (.value v) w' ∨ (s.run P w = .ok .skip w' ∧ v = undef)) ∧ R v w') ∨
  (∃ l f tmps assign body w', s.run P w = .ok (.round l f tmps assign body) w' ∧ RoundIn Fence.wide 0 P l f tmps assign body w' (fun e w'' => ∃ v, e = .returned v ∧ R v w'')) ∨
  (∃ f args w', s.run P w = .ok (.enter f args) w' ∧ Calls P f args w' (fun e w'' => ∃ v, e = .returned v ∧ R v w''))
theorem RunsTo.mono {P : Program} {s : Sem Next} {w : World} {R R' : Value → World → Prop} (h : RunsTo P s w R) (hr : ∀ v w', R v w' → R' v w') : RunsTo P s w R' := by
  rcases h with ⟨v, w', h1, h2⟩ | ⟨l, f, tmps, assign, body, w', h1, h2⟩ | ⟨f, args, w', h1, h2⟩
  · exact .inl ⟨v, w', h1, hr _ _ h2⟩
  · exact .inr (.inl ⟨l, f, tmps, assign, body, w', h1, h2.mono fun e w'' ⟨v, he, hR⟩ => ⟨v, he, hr _ _ hR⟩⟩)
  · exact .inr (.inr ⟨f, args, w', h1, h2.mono fun e w'' ⟨v, he, hR⟩ => ⟨v, he, hr _ _ hR⟩⟩)

def bare (op : Op) (type : TypeId) : Oper := { dst := none, op := op, type := type, pos := "", after := #[], guard := none }

def ValsAt (ε : List Value) (ρ : Operand → Value) : List (Operand × SV) → Prop
  | [] => True
  | (x, s) :: l => ρ x = s.den ε ∧ ValsAt ε ρ l

def keys : Facts → List Nat
  | [] => []
  | (i, _) :: fs => i :: keys fs
/-- what holds of the world when it is shown -/
structure Shown (G : Ctx) (ε : List Value) (t : List Nat) (fs : Facts) (wx w : World) : Prop where
  kept : Kept (BlkIn ε t) wx w
  base : Kept G.M G.W0 w
  facts : FactsAt ε w fs
  dj : ∀ i j, i ∈ keys fs → j ∈ keys fs → i ≠ j → blkOf (nth ε i) ≠ blkOf (nth ε j)

/-- the values of these types whose cells are these -/
def yvals (P : Program) : List TypeId → List Value → List Value
  | [], _ => []
  | t :: ts, x => match (P.info? t).bind (·.zero) with
    | some (.agg cs) => .agg (x.take cs.size).toArray :: yvals P ts (x.drop cs.size)
    | _ => x.headD undef :: yvals P ts (x.drop 1)

/-- what an operation whose law alone is known may change -/
def FpOk (G : Ctx) (drawn : Bool) (X : Nat → Prop) (ε : List Value) (un : List Nat) (w : World) (b : Nat) : Prop :=
  (drawn = true → X b) ∧ (b < G.W0.heap.size → G.M b) ∧ ¬ BlkIn ε un b ∧ (G.rc = true → ¬ IsRec w b)

def VC.den (k : VC) (G : Ctx) (Λ : Nat → List Value → World → Prop) (ε : List Value) (wx ws : World) (X : Nat → Prop) : Prop :=
  match k with
  | .bad _ => False
  | .leaf i vs t fs => ∀ w, Shown G ε t fs wx w → Λ i (denL ε vs) w
  | .ob p k => p.den ε = true ∧ k.den G Λ ε wx ws X
  | .split b x y => (b.den ε = true → x.den G Λ ε wx ws X) ∧ (b.den ε = false → y.den G Λ ε wx ws X)
  | .both x y => x.den G Λ ε wx ws X ∧ y.den G Λ ε wx ws X
  | .start drawn t t' fs k => ∀ w, Shown G ε t fs wx w →
      if drawn then ∃ X : Nat → Prop, (∀ b, BlkIn ε t' b → X b) ∧ k.den G Λ ε w w X else k.den G Λ ε w w (BlkIn ε t')
  | .blk k => ∀ b, wx.heap.size ≤ b → ws.heap.size ≤ b → G.W0.heap.size ≤ b → k.den G Λ (ε ++ [.pointer (some ⟨b, 0, none⟩)]) wx ws X
  | .load a bs k => ∃ l, Fits bs l ∧ (∃ ad, a.den ε = .pointer (some ad) ∧ ¬ X ad.block ∧ ∀ j v, l[j]? = some v → ws.cell? (ad.add j) = some v) ∧ k.den G Λ (ε ++ l) wx ws X
  | .pur op type vals bs rv k => ∃ l, Fits bs l ∧ (∀ ρ, ValsAt ε ρ vals → ∀ w', Kept X ws w' → (execOp ρ (bare op type)).run G.P w' = .ok (.value (rv.den (ε ++ l))) w') ∧ k.den G Λ (ε ++ l) wx ws X
  | .call f args bs rv touch drawn t t' un fs k => ∀ w, Shown G ε t fs wx w →
      ∃ (R : List Value → World → Prop) (Fp : Nat → Prop),
        Calls G.P f (denL ε args).toArray w (fun e w' => ∃ l, Fits bs l ∧ e = .returned (rv.den (ε ++ l)) ∧ R l w' ∧ Kept Fp w w' ∧ FactsAt (ε ++ l) w' touch) ∧
        (∀ b, Fp b → b < w.heap.size → FpOk G drawn X ε un w b) ∧
        allB bs (fun l => ∀ w', R l w' → Kept Fp w w' → if drawn then k.den G Λ (ε ++ l) w' ws X else k.den G Λ (ε ++ l) w' w' (BlkIn ε t'))
  | .gen op type vals bs rv touch drawn t t' un fs k => ∀ w, Shown G ε t fs wx w →
      ∃ (R : List Value → World → Prop) (Fp : Nat → Prop),
        (∀ ρ, ValsAt ε ρ vals → RunsTo G.P (execOp ρ (bare op type)) w (fun v w' => ∃ l, Fits bs l ∧ v = rv.den (ε ++ l) ∧ R l w' ∧ Kept Fp w w' ∧ FactsAt (ε ++ l) w' touch)) ∧
        (∀ b, Fp b → b < w.heap.size → FpOk G drawn X ε un w b) ∧
        allB bs (fun l => ∀ w', R l w' → Kept Fp w w' → if drawn then k.den G Λ (ε ++ l) w' ws X else k.den G Λ (ε ++ l) w' w' (BlkIn ε t'))
  | .loop i vs bs t t' fs fs' k => ∀ w, Shown G ε t fs wx w →
      ∃ (I : List Value → World → Prop) (μ : List Value → World → Nat), I (denL ε vs) w ∧
        allB bs (fun l => ∀ w', I l w' → Kept G.M G.W0 w' → FactsAt (ε ++ l) w' fs' →
          k.den G (fun j vs' w'' => if j = i then I vs' w'' ∧ μ vs' w'' < μ l w' else Λ j vs' w'') (ε ++ l) w' w' (BlkIn (ε ++ l) t'))
  | .cut i bs t' fs' ka kb => ∃ I : List Value → World → Prop, ka.den G (fun j vs' w'' => if j = i then I vs' w'' else Λ j vs' w'') ε wx ws X ∧
        allB bs (fun l => ∀ w', I l w' → Kept G.M G.W0 w' → FactsAt (ε ++ l) w' fs' → kb.den G Λ (ε ++ l) w' w' (BlkIn (ε ++ l) t'))
  | .leafM i vs t fs => ∀ w, Shown G ε t fs wx w → ∀ w', Quiet w w' → Kept G.M G.W0 w' → Λ i (denL ε vs) w'
  | .resume t t' fs k => ∀ w, Shown G ε t fs wx w → ∀ w', Quiet w w' → Kept G.M1 G.W1 w' → k.den G.out Λ ε w' w' (BlkIn ε t')
  | .range i fv ybs tys vs cbs t t' fs fsa kb ka => ∀ w, Shown G ε t fs wx w →
      ∃ (g : Nat) (caps : List Value) (xs : List (List Value)) (I : Nat → List Value → World → Prop) (Ft : Nat → Prop),
        fv.den ε = .func (.func g) #[] caps.toArray ∧ goFunc G.P g = true ∧ (∀ x ∈ xs, Fits ybs x) ∧
        SeqOk G.P g caps.toArray w Ft (xs.map fun x => (yvals G.P tys x).toArray) ∧
        (∀ k l w', I k l w' → ∀ b, Ft b → w'.heap[b]? = w.heap[b]?) ∧ (∀ b, Ft b → b < w.heap.size ∧ ¬ IsRec w b ∧ ¬ BlkIn ε t' b) ∧
        I 0 (denL ε vs) w ∧
        (∀ k x, xs[k]? = some x → allB cbs (fun l => ∀ w0 w', I k l w0 → Quiet w0 w' → Kept G.M G.W0 w' → FactsAt (ε ++ l ++ x) w' fsa →
          kb.den (G.round w0 w' Ft) (fun j vs' w'' => if j = i then I (k + 1) vs' w'' else Λ j vs' w'') (ε ++ l ++ x) w' w' (BlkIn (ε ++ l ++ x) t'))) ∧
        allB cbs (fun l => ∀ w0 w', I xs.length l w0 → Quiet w0 w' → Kept G.M G.W0 w' → FactsAt (ε ++ l) w' fsa → ka.den G Λ (ε ++ l) w' w' (BlkIn (ε ++ l) t'))

end Go.Sx
