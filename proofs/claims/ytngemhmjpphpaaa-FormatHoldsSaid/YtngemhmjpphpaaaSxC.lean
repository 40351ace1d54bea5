/- Part C of a symbolic run of Go code by computation: its states, conditions and the proof that a condition that holds says what the function returns. No conditions of its own. -/
import Derived.Test.YtngemhmjpphpaaaSxB
set_option linter.unusedVariables false
set_option linter.unusedSimpArgs false
namespace Go.Sx
open Go.RowKit

/-! the state of the symbolic run -/
structure St where
  tmps : List (Option SV)
  heap : Facts
  ks : List Base
  path : List (BE × Bool)
  t0 : List Nat
  drawn : Bool
  wr : Bool := false

def getL {α : Type} : List (Option α) → Nat → Option α
  | [], _ => none
  | x :: _, 0 => x
  | _ :: l, n + 1 => getL l n
def setL {α : Type} : List (Option α) → Nat → Option α → List (Option α)
  | [], _, _ => []
  | _ :: l, 0, v => v :: l
  | x :: l, n + 1, v => x :: setL l n v

def undefS : SV := .cst undef
def ofConst : Value → SV
  | .int k n => .int k (.lit n)
  | .bool b => .bool (.lit b)
  | v => .cst v

def St.ev (s : St) : Operand → Option SV
  | .tmp t => getL s.tmps t
  | .const v => some (ofConst v)
  | .global g => some (.cst (.pointer (some ⟨g, 0, none⟩)))
  | .func f => some (.fn f [])

def St.put (s : St) (dst : Option Tmp) (v : SV) : St :=
  match dst with
  | none => s
  | some d => { s with tmps := setL s.tmps d (some v) }

def findH : Facts → Nat → Option (List SV)
  | [], _ => none
  | (i, l) :: fs, j => if Nat.beq i j then some l else findH fs j
def setH : Facts → Nat → List SV → Facts
  | [], _, _ => []
  | (i, l) :: fs, j, m => if Nat.beq i j then (i, m) :: fs else (i, l) :: setH fs j m
def memN : Nat → List Nat → Bool
  | _, [] => false
  | i, j :: l => Nat.beq i j || memN i l
def addN (i : Nat) (l : List Nat) : List Nat := if memN i l then l else i :: l

def wfF (n : Nat) : Facts → Bool
  | [] => true
  | (i, l) :: fs => Nat.blt i n && wfL n l && wfF n fs
def wfT (n : Nat) : List (Option SV) → Bool
  | [] => true
  | none :: l => wfT n l
  | some s :: l => s.wf n && wfT n l
def wfN (n : Nat) : List Nat → Bool
  | [] => true
  | i :: l => Nat.blt i n && wfN n l

/-! the numbers -/
def kmin : IntKind → Int
  | .i8 => -128 | .i16 => -32768 | .i32 => -2147483648 | .i64 => -9223372036854775808 | _ => 0
def kmax : IntKind → Int
  | .i8 => 127 | .i16 => 32767 | .i32 => 2147483647 | .i64 => 9223372036854775807
  | .u8 => 255 | .u16 => 65535 | .u32 => 4294967295 | .u64 => 18446744073709551615

def mkAdd : IE → IE → IE
  | .lit a, .lit b => .lit (a + b)
  | a, b => .add a b
def mkSub : IE → IE → IE
  | .lit a, .lit b => .lit (a - b)
  | a, b => .sub a b
def mkMul : IE → IE → IE
  | .lit a, .lit b => .lit (a * b)
  | a, b => .mul a b
def mkLt : IE → IE → BE
  | .lit a, .lit b => .lit (decide (a < b))
  | a, b => .lt a b
def mkLe : IE → IE → BE
  | .lit a, .lit b => .lit (decide (a ≤ b))
  | a, b => .le a b
def mkEq : IE → IE → BE
  | .lit a, .lit b => .lit (decide (a = b))
  | a, b => .eq a b
def mkNot : BE → BE
  | .lit b => .lit (!b)
  | a => .not a

/-- what must hold, and then -/
def obs : List BE → VC → VC
  | [], k => k
  | .lit true :: l, k => obs l k
  | p :: l, k => .ob p (obs l k)

def inR (k : IntKind) (e : IE) : List BE := [mkLe (.lit (kmin k)) e, mkLe e (.lit (kmax k))]

/-! the types -/
def baseOf : Value → Base
  | .int k _ => .int k
  | .bool _ => .bool
  | .slice .. => .slice
  | .pointer _ => .ptr
  | .map _ => .map
  | .nilFunc => .func
  | .func .. => .func
  | _ => .any
def mkSV (n : Nat) : Base → SV
  | .int k => .int k (.var n)
  | .bool => .bool (.var n)
  | _ => .var n
def mkSVs : Nat → List Base → List SV
  | _, [] => []
  | n, b :: bs => mkSV n b :: mkSVs (n + 1) bs

/-- the kinds of the cells of a value of the type, and the value out of variables from n on -/
def freshTy (P : Program) (n : Nat) (t : TypeId) : Option (List Base × SV) :=
  match (P.info? t).bind (·.zero) with
  | some (.agg cs) => let bs := cs.toList.map baseOf; some (bs, .agg (mkSVs n bs))
  | some v => some ([baseOf v], mkSV n (baseOf v))
  | none => none
def freshTys (P : Program) : Nat → List TypeId → Option (List Base × List SV)
  | _, [] => some ([], [])
  | n, t :: ts =>
    match freshTy P n t with
    | none => none
    | some (bs, v) => match freshTys P (n + bs.length) ts with
      | none => none
      | some (bs', vs) => some (bs ++ bs', v :: vs)
def freshRes (P : Program) (n : Nat) (ts : List TypeId) : Option (List Base × SV) :=
  match ts with
  | [t] => freshTy P n t
  | ts => match freshTys P n ts with
    | none => none
    | some (bs, vs) => some (bs, .tuple vs)
/-- of a type that may be a tuple -/
def freshAny (P : Program) (n : Nat) (t : TypeId) : Option (List Base × SV) :=
  match P.underlying t with
  | some (.tuple ts) => match freshTys P n ts.toList with
    | none => none
    | some (bs, vs) => some (bs, .tuple vs)
  | _ => freshTy P n t

def isAggT (P : Program) (t : TypeId) : Option Bool :=
  match P.underlying t with
  | some (.struct _) => some true
  | some (.array _ _) => some true
  | some _ => some false
  | none => none
def sizeT (P : Program) (t : TypeId) : Option Nat := (P.info? t).map (·.size)
def zeroT (P : Program) (t : TypeId) : Option Value := (P.info? t).bind (·.zero)

/-- the zero value of the type has the type's own shape -/
def shapeOk (P : Program) (t : TypeId) : Bool :=
  match isAggT P t, zeroT P t, sizeT P t with
  | some true, some (.agg cs), some n => cs.size == n
  | some false, some v, some _ => v.oneCell'
  | _, _, _ => false

/-- the cells of a value of one cell or of an aggregate -/
def cellsS : SV → List SV
  | .agg l => l
  | v => [v]
/-- surely a value of one cell -/
def oneS (ks : List Base) : SV → Bool
  | .var i => Nat.blt i ks.length
  | .int .. => true
  | .bool _ => true
  | .ptr .. => true
  | .elt .. => true
  | .slc .. => true
  | .fn .. => true
  | .cst v => v.oneCell'
  | _ => false
def allOne (ks : List Base) : List SV → Bool
  | [] => true
  | s :: l => oneS ks s && allOne ks l
/-- a value that has well told cells: an aggregate of single cells, or a single cell -/
def cellsOk (ks : List Base) : SV → Bool
  | .agg l => allOne ks l
  | v => oneS ks v

def takeN {α : Type} : Nat → List α → List α
  | 0, _ => []
  | _ + 1, [] => []
  | n + 1, x :: l => x :: takeN n l
def dropN {α : Type} : Nat → List α → List α
  | 0, l => l
  | _ + 1, [] => []
  | n + 1, _ :: l => dropN n l
def fillS (cells : List SV) (off : Nat) (vals : List SV) : List SV := takeN off cells ++ vals ++ dropN (off + vals.length) cells

def nthB : List Base → Nat → Option Base
  | [], _ => none
  | b :: _, 0 => some b
  | _ :: l, n + 1 => nthB l n
def isSliceVar (ks : List Base) (i : Nat) : Bool :=
  match nthB ks i with
  | some .slice => true
  | _ => false
def isK (ks : List Base) (i : Nat) (b : Base) : Bool :=
  match nthB ks i, b with
  | some .slice, .slice => true
  | some .ptr, .ptr => true
  | some .map, .map => true
  | some .func, .func => true
  | _, _ => false
/-- a test against nil of the variable i, of the type -/
def nilRes (P : Program) (ks : List Base) (t : TypeId) (i : Nat) (c : Value) : Option BE :=
  match P.underlying t, c with
  | some (.pointer _), .pointer none => if isK ks i .ptr then some (.nil i) else none
  | some (.slice _), .slice none _ _ => if isK ks i .slice then some (.nil i) else none
  | some (.map ..), .map none => if isK ks i .map then some (.nil i) else none
  | some (.func ..), .nilFunc => if isK ks i .func then some (.nil i) else none
  | _, _ => none
/-- a pointer into a tracked block, against nil -/
def ptrNil (P : Program) (s : St) (t : TypeId) (i : Nat) (c : Value) : Bool :=
  match P.underlying t, c with
  | some (.pointer _), .pointer none => (findH s.heap i).isSome
  | _, _ => false
/-- nil against nil -/
def nilNil (P : Program) (t : TypeId) (c d : Value) : Bool :=
  match P.underlying t, c, d with
  | some (.pointer _), .pointer none, .pointer none => true
  | some (.slice _), .slice none _ _, .slice none _ _ => true
  | _, _, _ => false
def isPS (ks : List Base) (i : Nat) : Bool := isK ks i .ptr || isK ks i .slice
/-- what must hold for the variable i to hold an address -/
def pz (s : St) (i : Nat) : Option (List BE) :=
  if (findH s.heap i).isSome then some [] else
  if isPS s.ks i then some (match known s.path (.nil i) with | some false => [] | _ => [.not (.nil i)]) else none
def litI : IE → Option Int
  | .lit n => some n
  | _ => none
def litN : IE → Option Nat
  | .lit (.ofNat n) => some n
  | _ => none

/-- the parts of a struct or an array literal laid over the zero value -/
def buildS (place : Nat → Option (Nat × Nat)) (cells : List SV) : List (Nat × SV) → Option (List SV)
  | [] => some cells
  | (i, v) :: rest =>
    match place i with
    | none => none
    | some (off, size) =>
      if (cellsS v).length == size && Nat.ble (off + size) cells.length then buildS place (fillS cells off (cellsS v)) rest else none

inductive Res where
  | val (p : List BE) (v : SV)
  | load (a : SV) (bs : List Base) (v : SV)
  | alloc (cells : List SV) (v : SV)
  | store (key off : Nat) (vs : List SV)
  | call (f : Nat) (args : List SV)
  | gen (vals : List (Operand × SV))
  | pur (vals : List (Operand × SV))
  | bad (s : String)

def cmpRes (op : BinOp) (a b : IE) : Option BE :=
  match op with
  | .eql => some (mkEq a b)
  | .neq => some (mkNot (mkEq a b))
  | .lss => some (mkLt a b)
  | .leq => some (mkLe a b)
  | .gtr => some (mkLt b a)
  | .geq => some (mkLe b a)
  | _ => none

def evs (s : St) : List Operand → Option (List SV)
  | [] => some []
  | x :: l => match s.ev x, evs s l with
    | some v, some vs => some (v :: vs)
    | _, _ => none
def pairsS (s : St) : List (Nat × Operand) → Option (List (Nat × SV))
  | [] => some []
  | (i, x) :: l => match s.ev x, pairsS s l with
    | some v, some vs => some ((i, v) :: vs)
    | _, _ => none
def valsS (s : St) : List Operand → Option (List (Operand × SV))
  | [] => some []
  | x :: l => match s.ev x, valsS s l with
    | some v, some vs => some ((x, v) :: vs)
    | _, _ => none
def allCells (ks : List Base) : List (Nat × SV) → Bool
  | [] => true
  | (_, v) :: l => cellsOk ks v && allCells ks l

/-- an operation that changes nothing: it computes, or reads -/
def readOnly : Op → Bool
  | .convert .. => true
  | .binOp .. => true
  | .slice .. => true
  | .index .. => true
  | .call { callee := .builtin .len, .. } => true
  | .call { callee := .builtin .cap, .. } => true
  | .call { callee := .builtin .min, .. } => true
  | .call { callee := .builtin .max, .. } => true
  | _ => false
def genRes (s : St) (op : Op) : Res :=
  match valsS s op.operands.toList with
  | some vs => if readOnly op then .pur vs else .gen vs
  | none => .bad "gen: an operand is not known"

def stepS (P : Program) (s : St) (op : Op) : Res :=
  match op with
  | .move x => match s.ev x with | some v => .val [] v | none => .bad "move"
  | .assign x => match s.ev x with | some v => .val [] v | none => .bad "assign"
  | .pick c a b =>
    match s.ev c with
    | some (.bool p) =>
      match known s.path p with
      | some true => (match s.ev a with | some v => .val [] v | none => .bad "pick")
      | some false => (match s.ev b with | some v => .val [] v | none => .bad "pick")
      | none => .bad "pick: not known which"
    | _ => .bad "pick"
  | .unOp .not _ x => match s.ev x with | some (.bool b) => .val [] (.bool (mkNot b)) | _ => .bad "not"
  | .unOp .neg _ x => match s.ev x with | some (.int k a) => let e := mkSub (.lit 0) a; .val (inR k e) (.int k e) | _ => .bad "neg"
  | .binOp op t x y _ =>
    match s.ev x, s.ev y with
    | some (.int k a), some (.int k' b) =>
      if k = k' then
        match op with
        | .add => let e := mkAdd a b; if k = .i64 ∧ s.wr = false then .val (inR k e) (.int k e) else .val [] (.int k (.wrap k e))
        | .sub => let e := mkSub a b; if k = .i64 ∧ s.wr = false then .val (inR k e) (.int k e) else .val [] (.int k (.wrap k e))
        | .mul => let e := mkMul a b; if k = .i64 ∧ s.wr = false then .val (inR k e) (.int k e) else .val [] (.int k (.wrap k e))
        | .quo => let e := IE.quo a b; .val (mkNot (mkEq b (.lit 0)) :: inR k e) (.int k e)
        | .rem => .val [mkNot (mkEq b (.lit 0))] (.int k (.rem a b))
        | .and => .val [] (.int k (.bit .and k a b))
        | .or => .val [] (.int k (.bit .or k a b))
        | .xor => .val [] (.int k (.bit .xor k a b))
        | .andNot => .val [] (.int k (.bit .andNot k a b))
        | .shl => .val [mkLe (.lit 0) b] (.int k (.shl k a b))
        | .shr => .val [mkLe (.lit 0) b] (.int k (.shr k a b))
        | op => match cmpRes op a b with | some p => .val [] (.bool p) | none => .bad "binOp"
      else match op with
        | .shl => .val [mkLe (.lit 0) b] (.int k (.shl k a b))
        | .shr => .val [mkLe (.lit 0) b] (.int k (.shr k a b))
        | _ => .bad "binOp: kinds"
    | some (.bool a), some (.bool b) =>
      match op, P.underlying t with
      | .eql, some .bool => .val [] (.bool (.beq a b))
      | .neq, some .bool => .val [] (.bool (.not (.beq a b)))
      | _, _ => .bad "binOp: bools"
    | some (.var i), some (.cst c) =>
      match op, nilRes P s.ks t i c with
      | .eql, some b => .val [] (.bool b)
      | .neq, some b => .val [] (.bool (mkNot b))
      | _, _ => genRes s (.binOp op t x y 0)
    | some (.ptr i _), some (.cst c) =>
      match op, ptrNil P s t i c with
      | .eql, true => .val [] (.bool (.lit false))
      | .neq, true => .val [] (.bool (.lit true))
      | _, _ => genRes s (.binOp op t x y 0)
    | some (.cst c), some (.cst d) =>
      match op, nilNil P t c d with
      | .eql, true => .val [] (.bool (.lit true))
      | .neq, true => .val [] (.bool (.lit false))
      | _, _ => genRes s (.binOp op t x y 0)
    | _, _ => genRes s (.binOp op t x y 0)
  | .convert src dst x =>
    match s.ev x, P.underlying src, P.underlying dst with
    | some (.int _ a), some (.int k'), some (.int k) =>
      if k = k' ∧ k = .i64 ∧ s.wr = false then .val (inR k a) (.int k a) else .val [] (.int k (.wrap k a))
    | _, _, _ => genRes s (.convert src dst x)
  | .makeFunc (.func f) first captured =>
    if first.toList.isEmpty then (match evs s captured.toList with | some vs => .val [] (.fn f vs) | none => .bad "makeFunc") else .bad "makeFunc: first"
  | .extract x ix => match s.ev x with
    | some (.tuple l) => match l[ix]? with | some v => .val [] v | none => .bad "extract"
    | _ => .bad "extract"
  | .nilCheck x => match s.ev x with
    | some (.var i) => if isK s.ks i .ptr then (match pz s i with | some q => .val q (.ptr i 0) | none => .bad "nilCheck") else .bad "nilCheck: no pointer"
    | some (.ptr i off) => (match pz s i with | some q => .val q (.ptr i off) | none => .bad "nilCheck")
    | some (.elt i o e z o2) => (match pz s i with | some q => .val q (.elt i o e z o2) | none => .bad "nilCheck")
    | some (.fn f l) => .val [] (.fn f l)
    | _ => .bad "nilCheck"
  | .fieldAddr t x f =>
    match P.underlying t with
    | some (.struct fields) =>
      match fields[f]? with
      | some fd =>
        match sizeT P fd.type with
        | some (_ + 1) => (match s.ev x with
          | some (.ptr i off) => (match pz s i with | some q => .val q (.ptr i (off + fd.offset)) | none => .bad "fieldAddr")
          | some (.elt i o e z o2) => (match pz s i with | some q => .val q (.elt i o e z (o2 + fd.offset)) | none => .bad "fieldAddr")
          | _ => .bad "fieldAddr")
        | _ => .bad "fieldAddr: size"
      | none => .bad "fieldAddr: field"
    | _ => .bad "fieldAddr: type"
  | .field t x f =>
    match P.underlying t with
    | some (.struct fields) =>
      match fields[f]? with
      | some fd =>
        match s.ev x, sizeT P fd.type with
        | some (.agg l), some n =>
          (match isAggT P fd.type with
          | some true => if Nat.ble (fd.offset + n) l.length then .val [] (.agg (takeN n (dropN fd.offset l))) else .bad "field: size"
          | some false => (match l[fd.offset]? with | some v => .val [] v | none => .bad "field")
          | none => .bad "field")
        | _, _ => .bad "field"
      | none => .bad "field"
    | _ => .bad "field"
  | .indexAddr t x ix =>
    match P.underlying t, s.ev x, s.ev ix with
    | some (.slice el), some (.var i), some (.int _ e) =>
      (match sizeT P el, pz s i with
      | some n, some q => if isSliceVar s.ks i then .val (mkLe (.lit 0) e :: mkLt e (.len i) :: q) (.elt i 0 e n 0) else .bad "indexAddr: no slice"
      | _, _ => .bad "indexAddr")
    | some (.slice el), some (.slc i lo m _), some (.int _ e) =>
      (match sizeT P el, pz s i with
      | some n, some q => (match litN e with
        | some j => if Nat.blt j m then .val q (.ptr i (lo + j * n)) else .bad "indexAddr: bound"
        | none => .val (mkLe (.lit 0) e :: mkLt e (.lit m) :: q) (.elt i lo e n 0))
      | _, _ => .bad "indexAddr")
    | some (.array m el), some (.ptr i lo), some (.int _ e) =>
      (match sizeT P el, pz s i with
      | some n, some q => (match litN e with
        | some j => if Nat.blt j m then .val q (.ptr i (lo + j * n)) else .bad "indexAddr: bound"
        | none => .val (mkLe (.lit 0) e :: mkLt e (.lit m) :: q) (.elt i lo e n 0))
      | _, _ => .bad "indexAddr")
    | _, _, _ => .bad "indexAddr"
  | .slice t x lo hi mx =>
    match P.underlying t, s.ev x, lo, hi, mx with
    | some (.array m el), some (.ptr i off), none, none, none =>
      (match sizeT P el, pz s i with | some _, some q => .val q (.slc i off m m) | _, _ => .bad "slice")
    | _, _, _, _, _ => genRes s (.slice t x lo hi mx)
  | .load t x =>
    match s.ev x, sizeT P t with
    | some (.ptr i off), some n =>
      (match findH s.heap i with
      | some cells =>
        (match isAggT P t with
        | some true => if Nat.ble (off + n) cells.length then .val [] (.agg (takeN n (dropN off cells))) else .bad "load: size"
        | some false => (match cells[off]? with | some v => .val [] v | none => .bad "load: off")
        | none => .bad "load")
      | none => match freshTy P s.ks.length t with | some (bs, v) => if shapeOk P t then .load (.ptr i off) bs v else .bad "load: shape" | none => .bad "load: type")
    | some (.elt i o e z o2), some _ => (match freshTy P s.ks.length t with | some (bs, v) => if shapeOk P t then .load (.elt i o e z o2) bs v else .bad "load: shape" | none => .bad "load: type")
    | _, _ => .bad "load"
  | .store t x y =>
    match s.ev x, s.ev y, sizeT P t with
    | some (.ptr i off), some v, some n =>
      (match findH s.heap i with
      | some cells =>
        if (cellsS v).length == n && Nat.ble (off + n) cells.length && cellsOk s.ks v then .store i off (cellsS v) else .bad "store"
      | none => genRes s (.store t x y))
    | some _, some _, some _ => genRes s (.store t x y)
    | _, _, _ => .bad "store"
  | .alloc t => match zeroT P t with | some z => .alloc (z.cells.toList.map ofConst) (.ptr s.ks.length 0) | none => .bad "alloc"
  | .box _ x => match s.ev x with | some v => if cellsOk s.ks v then .alloc (cellsS v) (.ptr s.ks.length 0) else .bad "box" | none => .bad "box"
  | .build t parts =>
    match zeroT P t, pairsS s parts.toList, P.underlying t with
    | some z, some ps, some (.struct fields) =>
      if allCells s.ks ps && fields.toList.all (fun fd => (sizeT P fd.type).isSome) then
        (match buildS (fun i => (fields[i]?).bind fun fd => (sizeT P fd.type).map fun n => (fd.offset, n)) (z.cells.toList.map ofConst) ps with
        | some l => .val [] (.agg l)
        | none => .bad "build")
      else .bad "build: cells"
    | some z, some ps, some (.array _ el) =>
      if allCells s.ks ps then
        (match sizeT P el with
        | some n => (match buildS (fun i => some (i * n, n)) (z.cells.toList.map ofConst) ps with
          | some l => .val [] (.agg l)
          | none => .bad "build")
        | none => .bad "build")
      else .bad "build: cells"
    | _, _, _ => .bad "build"
  | .buildSlice t m parts =>
    match P.underlying t, pairsS s parts.toList with
    | some (.slice el), some ps =>
      if allCells s.ks ps then
        (match sizeT P el, zeroT P el with
        | some n, some z =>
          if Nat.ble (m * n) 16777216 && z.cells.size == n then
            (match buildS (fun i => some (i * n, n)) ((List.range (m * n)).map fun j => ofConst (z.cells[j % n]!)) ps with
            | some l => .alloc l (.slc s.ks.length 0 m m)
            | none => .bad "buildSlice")
          else .bad "buildSlice: size"
        | _, _ => .bad "buildSlice")
      else .bad "buildSlice: cells"
    | _, _ => .bad "buildSlice"
  | .call { callee := .value fo, args, .. } =>
    match s.ev fo, evs s args.toList with
    | some (.fn f caps), some vs => if goFunc P f then .call f (vs ++ caps) else .bad "call: no Go function"
    | some (.var _), some _ => genRes s op
    | _, _ => .bad "call"
  | .call { callee := .builtin .len, args, argTypes } =>
    match evs s args.toList, (argTypes[0]?).bind P.underlying with
    | some [.var i], some (.slice _) => if isSliceVar s.ks i then .val [] (.int .i64 (.len i)) else .bad "len"
    | some [.slc _ _ n _], some (.slice _) => .val [] (.int .i64 (.lit n))
    | _, _ => genRes s op
  | .call { callee := .builtin .cap, args, argTypes } =>
    match evs s args.toList, (argTypes[0]?).bind P.underlying with
    | some [.var i], some (.slice _) => if isSliceVar s.ks i then .val [] (.int .i64 (.cap i)) else .bad "cap"
    | some [.slc _ _ _ c], some (.slice _) => .val [] (.int .i64 (.lit c))
    | _, _ => genRes s op
  | .call { callee := .builtin .min, args, .. } =>
    match evs s args.toList with
    | some [.int k a, .int _ b] => .val [] (.int k (.min a b))
    | _ => genRes s op
  | .call { callee := .builtin .max, args, .. } =>
    match evs s args.toList with
    | some [.int k a, .int _ b] => .val [] (.int k (.max a b))
    | _ => genRes s op
  | .call { callee := .invoke .., .. } => .bad "invoke"
  | .go _ => .bad "go"
  | .defer _ => .bad "defer"
  | .select .. => .bad "select"
  | .send .. => .bad "send"
  | .recv .. => .bad "recv"
  | .panic _ => .bad "panic"
  | .makeFunc .. => .bad "makeFunc"
  | op => genRes s op

end Go.Sx
