/- Part D of a symbolic run of Go code by computation: its states, conditions and the proof that a condition that holds says what the function returns. No conditions of its own. -/
import Derived.Test.YtngemhmjpphpaaaSxC
set_option linter.unusedVariables false
set_option linter.unusedSimpArgs false
namespace Go.Sx
open Go.RowKit

structure LoopInfo where
  i : Nat
  slots : List (Nat × Base)
  touch : List Nat

/-- what the symbolic run is told: the program; which arguments of a callee point to a block that it may change; the loops; the regions in which a tracked block changes -/
structure RangeInfo where
  i : Nat
  tys : List TypeId
  touch : List Nat

structure Cfg where
  P : Program
  ranged : Bool := false
  wraps : Bool := false
  ranges : Nat → Option RangeInfo := fun _ => none
  muts : Nat → List Nat := fun _ => []
  loops : Nat → Option LoopInfo := fun _ => none
  drops : Nat → List Nat := fun _ => []
  dropR : Nat → List Nat := fun _ => []
  joins : Nat → Option LoopInfo := fun _ => none
  dropJ : Nat → List Nat := fun _ => []
  vary : List Nat := []
  inRound : Bool := false
  live : List Nat := [0]

def noDefer (o : Oper) : Bool := match o.op with | .defer _ => false | _ => true

def wfPath (n : Nat) : List (BE × Bool) → Bool
  | [] => true
  | (b, _) :: l => b.wf n && wfPath n l
def wfS (s : St) : Bool := wfT s.ks.length s.tmps && wfF s.ks.length s.heap && wfN s.ks.length s.t0 && wfPath s.ks.length s.path

def sbase (ks : List Base) : SV → Base
  | .int k _ => .int k
  | .bool _ => .bool
  | .var i => match nthB ks i with | some b => b | none => .any
  | .slc .. => .slice
  | .ptr .. => .ptr
  | .elt .. => .ptr
  | .fn .. => .func
  | .cst v => baseOf v
  | _ => .any
def sbases (ks : List Base) : List SV → List Base
  | [] => []
  | s :: l => sbase ks s :: sbases ks l

/-- the tracked blocks that the arguments at these places point to -/
def touched (heap : Facts) (args : List SV) : List Nat → List Nat
  | [] => []
  | j :: l => match args[j]? with
    | some (.ptr i _) => if (findH heap i).isSome then i :: touched heap args l else touched heap args l
    | some (.slc i _ _ _) => if (findH heap i).isSome then i :: touched heap args l else touched heap args l
    | _ => touched heap args l
/-- their contents anew, out of variables from n on -/
def anew (ks : List Base) (heap : Facts) : Nat → List Nat → List Base × Facts
  | _, [] => ([], [])
  | n, i :: l => match findH heap i with
    | some cells => let bs := sbases ks cells; let r := anew ks heap (n + bs.length) l; (bs ++ r.1, (i, mkSVs n bs) :: r.2)
    | none => anew ks heap n l
def setAll : Facts → Facts → Facts
  | h, [] => h
  | h, (i, l) :: fs => setAll (setH h i l) fs
def without (l : List Nat) : List Nat → List Nat
  | [] => []
  | i :: r => if memN i l then without l r else i :: without l r

def afterS (s : St) (bs tbs : List Base) (tf : Facts) : St :=
  { s with ks := s.ks ++ (bs ++ tbs), heap := setAll s.heap tf, t0 := [] }

def isStore : Op → Bool
  | .store .. => true
  | .mapUpdate .. => true
  | .insert .. => true
  | .entryStore .. => true
  | _ => false

/-- what is known of nil behind the obligations -/
def nilPath : List BE → List (BE × Bool) → List (BE × Bool)
  | [], l => l
  | .not (.nil i) :: r, l => (.nil i, false) :: nilPath r l
  | _ :: r, l => nilPath r l

def inHeld : Option (List Nat) → Nat → Bool
  | some h, k => memN k h
  | none, _ => false
def offHeld : Option (List Nat) → List Nat → Bool
  | some h, l => l.all fun i => !memN i h
  | none, _ => true

/-- an element of an array that is tracked, its index not written out: where, the index, the elements' size and number -/
def idxOf (P : Program) (s : St) (op : Op) (v : SV) : Option (Nat × Nat × IE × Nat × Nat) :=
  match op, v with
  | .indexAddr t _ _, .elt i lo e n 0 =>
    if (findH s.heap i).isSome then
      match P.underlying t with
      | some (.array m _) => if Nat.ble m 16 then some (i, lo, e, n, m) else none
      | _ => none
    else none
  | _, _ => none
/-- one way for each index -/
def idxK (i lo : Nat) (e : IE) (n : Nat) (K : St → SV → VC) : Nat → Nat → St → VC
  | _, 0, _ => .bad "index"
  | j, r + 1, s =>
    match known s.path (.eq e (.lit (Int.ofNat j))) with
    | some true => K s (.ptr i (lo + j * n))
    | some false => idxK i lo e n K (j + 1) r s
    | none => .split (.eq e (.lit (Int.ofNat j))) (K { s with path := (.eq e (.lit (Int.ofNat j)), true) :: s.path } (.ptr i (lo + j * n)))
        (idxK i lo e n K (j + 1) r { s with path := (.eq e (.lit (Int.ofNat j)), false) :: s.path })
def valK (P : Program) (op : Op) (v : SV) (K : St → SV → VC) (s : St) : VC :=
  match idxOf P s op v with
  | some (i, lo, e, n, m) => idxK i lo e n K 0 m s
  | none => K s v

def exDo (c : Cfg) (H : Option (List Nat)) (o : Oper) (K : St → VC) (s : St) : VC :=
  match stepS c.P s o.op with
  | .val p v => obs p (valK c.P o.op v (fun s' v' => K (s'.put o.dst v')) { s with path := nilPath p s.path })
  | .load a bs v =>
    if wfS s then
      if s.drawn then .load a bs (K ({ s with ks := s.ks ++ bs }.put o.dst v))
      else .start false s.t0 [] s.heap (.load a bs (K ({ s with ks := s.ks ++ bs, t0 := [] }.put o.dst v)))
    else .bad "load: wf"
  | .alloc cells v =>
    if wfS s && wfL s.ks.length cells && allOne s.ks cells then .blk (K ({ s with ks := s.ks ++ [Base.ptr], heap := (s.ks.length, cells) :: s.heap }.put o.dst v)) else .bad "alloc: wf"
  | .store key off vs =>
    match findH s.heap key with
    | some cells =>
      if inHeld H key then .bad "store: in a drawn region" else
      K ({ s with heap := setH s.heap key (fillS cells off vs), t0 := addN key s.t0 }.put o.dst undefS)
    | none => .bad "store"
  | .call f args =>
    match c.P.funcs[f]? with
    | none => .bad "call"
    | some fn =>
      match freshRes c.P s.ks.length fn.resultTypes.toList with
      | none => .bad "call: result"
      | some (bs, rv) =>
        let tk := touched s.heap args (c.muts f)
        let r := anew s.ks s.heap (s.ks.length + bs.length) tk
        if wfS s && wfL s.ks.length args && offHeld H (keys r.2) then
          .call f args (bs ++ r.1) rv r.2 s.drawn s.t0 [] (without (keys r.2) (keys s.heap)) s.heap (K ((afterS s bs r.1 r.2).put o.dst rv))
        else .bad "call: wf"
  | .pur vals =>
    if wfS s && wfL s.ks.length (vals.map (·.2)) then
      match freshAny c.P s.ks.length o.type with
      | none => .bad "pur: result"
      | some (bs, rv) =>
        if s.drawn then .pur o.op o.type vals bs rv (K ({ s with ks := s.ks ++ bs }.put o.dst rv))
        else .start false s.t0 [] s.heap (.pur o.op o.type vals bs rv (K ({ s with ks := s.ks ++ bs, t0 := [] }.put o.dst rv)))
    else .bad "pur: wf"
  | .gen vals =>
    if wfS s && wfL s.ks.length (vals.map (·.2)) then
      if isStore o.op then
        .gen o.op o.type vals [] undefS [] s.drawn s.t0 [] (keys s.heap) s.heap (K ((afterS s [] [] []).put o.dst undefS))
      else match freshAny c.P s.ks.length o.type with
        | none => .bad "gen: result"
        | some (bs, rv) => .gen o.op o.type vals bs rv [] s.drawn s.t0 [] (keys s.heap) s.heap (K ((afterS s bs [] []).put o.dst rv))
    else .bad "gen: wf"
  | .bad why => .bad why

def notBool : Value → Bool
  | .bool _ => false
  | _ => true

/-- what is known of an operation's guard: some r: decided; none: not yet -/
def guardS (ops : Array Oper) (o : Oper) (s : St) : Option Bool × Option BE :=
  match o.guard with
  | none => (some true, none)
  | some (j, want) =>
    match ((ops[j]?).bind (·.dst)).bind (getL s.tmps) with
    | some (.bool b) => match known s.path b with
      | some r => (some (r == want), none)
      | none => (none, some b)
    | some (.cst v) => if notBool v then (some false, none) else (none, none)
    | _ => (none, none)

def exOp (c : Cfg) (H : Option (List Nat)) (ops : Array Oper) (o : Oper) (K : St → VC) (s : St) : VC :=
  match o.guard with
  | none => exDo c H o K s
  | some (j, want) =>
    match ((ops[j]?).bind (·.dst)).bind (getL s.tmps) with
    | some (.bool b) =>
      match known s.path b with
      | some r => if r == want then exDo c H o K s else K (s.put o.dst undefS)
      | none =>
        .split b
          (if want then exDo c H o K { s with path := (b, true) :: s.path } else K ({ s with path := (b, true) :: s.path }.put o.dst undefS))
          (if want then K ({ s with path := (b, false) :: s.path }.put o.dst undefS) else exDo c H o K { s with path := (b, false) :: s.path })
    | some (.cst v) => if notBool v then K (s.put o.dst undefS) else .bad "guard"
    | _ => .bad "guard"

def exSeq (c : Cfg) (ops : Array Oper) : List Oper → (St → VC) → St → VC
  | [], K, s => K s
  | o :: r, K, s => exOp c none ops o (exSeq c ops r K) s

/-- the operation only computes, or reads what nobody in the region changes; or it is not known yet whether it is wanted -/
def quiet (c : Cfg) (h : List Nat) (ops : Array Oper) (o : Oper) (s : St) : Bool :=
  match guardS ops o s with
  | (some false, _) => true
  | (none, _) => true
  | (some true, _) =>
    match stepS c.P s o.op with
    | .val _ _ => (match o.op with
      | .load _ x => (match s.ev x with
        | some (.ptr i _) => !(findH s.heap i).isSome || memN i h
        | _ => true)
      | _ => true)
    | .load .. => true
    | .pur .. => true
    | _ => false

/-- one of them, whichever -/
def bothAll (f : Nat → VC) : List Nat → VC
  | [] => .bad "draw: none"
  | [i] => f i
  | i :: j :: l => .both (f i) (bothAll f (j :: l))

/-! which operations of a region are listed: those below p, and those of ex -/
def isL (p : Nat) (ex : List Nat) (i : Nat) : Bool := Nat.blt i p || memN i ex
def rangeFrom : Nat → Nat → List Nat
  | _, 0 => []
  | p, k + 1 => p :: rangeFrom (p + 1) k
/-- what it waits for is listed -/
def readyA (ops : Array Oper) (p : Nat) (ex : List Nat) (i : Nat) : Bool :=
  match ops[i]? with
  | some o => o.after.toList.all fun e => !Region.binds .any e || isL p ex e.on
  | none => false
def readyL (ops : Array Oper) (p : Nat) (ex : List Nat) : List Nat := (rangeFrom p (ops.size - p)).filter fun i => !memN i ex && readyA ops p ex i
def pairOk (ops : Array Oper) (oi : Oper) (i j : Nat) : Bool :=
  match ops[j]? with
  | some oj => oj.after.toList.any (fun e => Region.binds .any e && Nat.beq e.on i) || oi.apart ops oj
  | none => true
/-- all that is not listed waits for it, or is apart from it -/
def freeA (ops : Array Oper) (p : Nat) (ex : List Nat) (i : Nat) : Bool :=
  match ops[i]? with
  | some oi => (rangeFrom p (ops.size - p)).all fun j => Nat.beq j i || memN j ex || pairOk ops oi i j
  | none => false
/-- all that stands behind an operation waits for it, or is apart from it -/
def regOk (ops : Array Oper) : Bool :=
  (rangeFrom 0 ops.size).all fun i => match ops[i]? with
    | some oi => (rangeFrom (i + 1) (ops.size - (i + 1))).all fun j => pairOk ops oi i j
    | none => true
def advL : Nat → Nat → List Nat → Nat
  | 0, p, _ => p
  | k + 1, p, ex => if memN p ex then advL k (p + 1) ex else p
def putP (p : Nat) (ex : List Nat) (i : Nat) : Nat := if Nat.beq i p then advL ex.length (p + 1) ex else p
def putE (p : Nat) (ex : List Nat) (i : Nat) : List Nat := if Nat.beq i p then ex.filter (fun x => Nat.ble (putP p ex i) x) else i :: ex
def quietI (c : Cfg) (h : List Nat) (ops : Array Oper) (s : St) (i : Nat) : Bool := match ops[i]? with | some o => quiet c h ops o s | none => false
def pickQ (c : Cfg) (h : List Nat) (ops : Array Oper) (st : Bool) (p : Nat) (ex : List Nat) (s : St) : List Nat → Option Nat
  | [] => none
  | i :: l => if quietI c h ops s i && ((st && Nat.beq i p) || freeA ops p ex i) then some i else pickQ c h ops st p ex s l

/-- the tracked block into which an address leads, as far as the text tells -/
def chase (ops : List Oper) (s : St) : Nat → Operand → Option Nat
  | 0, _ => none
  | n + 1, x =>
    match s.ev x with
    | some (.ptr i _) => some i
    | some (.elt i _ _ _ _) => some i
    | some (.slc i _ _ _) => some i
    | _ => match x with
      | .tmp t => match ops.find? (fun o => o.dst == some t) with
        | some o => (match o.op with
          | .fieldAddr _ y _ => chase ops s n y
          | .indexAddr _ y _ => chase ops s n y
          | .nilCheck y => chase ops s n y
          | .move y => chase ops s n y
          | _ => none)
        | none => none
      | _ => none
def storedIn (ops : List Oper) (s : St) (i : Nat) : Bool := ops.any fun o => match o.op with
  | .store _ x _ => (match chase ops s 20 x with | some j => Nat.beq i j | none => false)
  | _ => false
/-- a call in the region may change the block -/
def calledIn (c : Cfg) (ops : List Oper) (s : St) (i : Nat) : Bool := ops.any fun o => match o.op with
  | .call { callee := .value (.func f), args, .. } => (c.muts f).any fun j => match args.toList[j]? with
    | some x => (match chase ops s 20 x with | some k => Nat.beq i k | none => false)
    | none => false
  | _ => false
/-- the tracked blocks that nobody in a region stores into -/
def heldS (c : Cfg) (ops : List Oper) (s : St) : List Nat := (keys s.heap).filter fun i => !(storedIn ops s i || calledIn c ops s i)

def exDraw (c : Cfg) (h : List Nat) (ops : Array Oper) (st : Bool) : Nat → Nat → List Nat → (St → VC) → St → VC
  | 0, _, _, _, _ => .bad "draw: fuel"
  | n + 1, p, ex, K, s =>
    if st && (!memN p ex && (readyA ops p ex p && quietI c h ops s p)) then
      match ops[p]? with
      | some o =>
        (match guardS ops o s with
        | (none, some b) => .split b (exDraw c h ops st n p ex K { s with path := (b, true) :: s.path }) (exDraw c h ops st n p ex K { s with path := (b, false) :: s.path })
        | _ => exOp c (some h) ops o (exDraw c h ops st n (putP p ex p) (putE p ex p) K) s)
      | none => .bad "draw"
    else
    match readyL ops p ex with
    | [] => K { s with drawn := false }
    | r :: rs =>
      match pickQ c h ops st p ex s (r :: rs) with
      | some i => (match ops[i]? with
        | some o =>
          (match guardS ops o s with
          | (none, some b) => .split b (exDraw c h ops st n p ex K { s with path := (b, true) :: s.path }) (exDraw c h ops st n p ex K { s with path := (b, false) :: s.path })
          | _ => exOp c (some h) ops o (exDraw c h ops st n (putP p ex i) (putE p ex i) K) s)
        | none => .bad "draw")
      | none => bothAll (fun i =>
          match ops[i]? with
          | some o => exOp c (some h) ops o (exDraw c h ops st n (putP p ex i) (putE p ex i) K) s
          | none => .bad "draw") (r :: rs)
def exDrawR (c : Cfg) (h : List Nat) (ops : Array Oper) (K : St → VC) (s : St) : VC :=
  match regOk ops with
  | true => exDraw c h ops true (2 * ops.size + 1) 0 [] K s
  | false => exDraw c h ops false (2 * ops.size + 1) 0 [] K s

inductive Ex where
  | ret
  | exit (id : Nat)
  | goto (l : Nat)

def firstReg : Code → Option Nat
  | .region id _ _ => some id
  | .seq a b => match firstReg a with | some i => some i | none => firstReg b
  | .cond _ a b => match firstReg a with | some i => some i | none => firstReg b
  | .block _ a => firstReg a
  | .loop a => firstReg a
  | .scope a => firstReg a
  | .rangeFunc _ _ a b => match firstReg a with | some i => some i | none => firstReg b
  | _ => none

def opWrites : List Oper → List Nat
  | [] => []
  | o :: r => match o.dst with | some d => d :: opWrites r | none => opWrites r
/-- the temporaries that a code may write -/
def writes : Code → List Nat
  | .region _ ops _ => opWrites ops.toList
  | .seq a b => writes a ++ writes b
  | .cond _ a b => writes a ++ writes b
  | .block _ a => writes a
  | .loop a => writes a
  | .scope a => writes a
  | .rangeFunc _ ps a b => ps.toList ++ writes a ++ writes b
  | _ => []

def forget : List (Option SV) → List Nat → List (Option SV)
  | t, [] => t
  | t, i :: l => forget (setL t i none) l
/-- a slot's new value: a pointer is one to a block that is not tracked -/
def mkSlot (n : Nat) : Base → SV
  | .ptr => .ptr n 0
  | b => mkSV n b
def putAll : List (Option SV) → Nat → List (Nat × Base) → List (Option SV)
  | t, _, [] => t
  | t, n, (i, b) :: l => putAll (setL t i (some (mkSlot n b))) (n + 1) l
def slotVals (t : List (Option SV)) : List (Nat × Base) → Option (List SV)
  | [] => some []
  | (i, _) :: l => match getL t i, slotVals t l with
    | some v, some vs => some (v :: vs)
    | _, _ => none
def touchKeys (t : List (Option SV)) (heap : Facts) : List Nat → Option (List Nat)
  | [] => some []
  | i :: l => match getL t i, touchKeys t heap l with
    | some (.ptr j _), some ks => if (findH heap j).isSome then some (j :: ks) else none
    | _, _ => none
def contents (heap : Facts) : List Nat → List SV
  | [] => []
  | i :: l => match findH heap i with | some c => c ++ contents heap l | none => contents heap l

/-- surely a value of the kind -/
def fitsS (ks : List Base) : Base → SV → Bool
  | .int k, .int k' _ => k == k'
  | .bool, .bool _ => true
  | .slice, .slc .. => true
  | .slice, .var i => isSliceVar ks i
  | .slice, .cst (.slice ..) => true
  | .ptr, .ptr .. => true
  | .ptr, .elt .. => true
  | .ptr, .var i => isK ks i .ptr
  | .ptr, .cst (.pointer _) => true
  | .map, .var i => isK ks i .map
  | .map, .cst (.map _) => true
  | .func, .fn .. => true
  | .func, .var i => isK ks i .func
  | .func, .cst .nilFunc => true
  | .any, v => oneS ks v
  | _, _ => false
def fitsAll (ks : List Base) : List Base → List SV → Bool
  | [], [] => true
  | b :: bs, v :: vs => fitsS ks b v && fitsAll ks bs vs
  | _, _ => false

def sameV : Value → Value → Bool
  | .int k n, .int k' m => k == k' && decide (n = m)
  | .bool a, .bool b => a == b
  | .pointer none, .pointer none => true
  | .slice none a b, .slice none c d => Nat.beq a c && Nat.beq b d
  | .map none, .map none => true
  | .nilFunc, .nilFunc => true
  | .tuple a, .tuple b => a.toList.isEmpty && b.toList.isEmpty
  | _, _ => false
mutual
def SV.same : SV → SV → Bool
  | .var i, .var j => Nat.beq i j
  | .int k e, .int k' e' => k == k' && e.same e'
  | .bool b, .bool b' => b.same b'
  | .ptr i o, .ptr j p => Nat.beq i j && Nat.beq o p
  | .slc a b c d, .slc e f g h => Nat.beq a e && Nat.beq b f && Nat.beq c g && Nat.beq d h
  | .elt i o e z q, .elt i' o' e' z' q' => Nat.beq i i' && Nat.beq o o' && e.same e' && Nat.beq z z' && Nat.beq q q'
  | .agg l, .agg m => sameL l m
  | .tuple l, .tuple m => sameL l m
  | .fn f l, .fn g m => Nat.beq f g && sameL l m
  | .cst v, .cst w => sameV v w
  | _, _ => false
def sameL : List SV → List SV → Bool
  | [], [] => true
  | a :: l, b :: m => a.same b && sameL l m
  | _, _ => false
end
/-- of the blocks of the first list all that are not among ks hold in the second what they held -/
def keptF (tk : List Nat) (now : Facts) : Facts → Bool
  | [] => true
  | (i, l) :: fs => (if memN i tk then true else match findH now i with | some m => sameL l m | none => false) && keptF tk now fs

/-- the told blocks hold as many cells as they did -/
def lensOk (was now : Facts) : List Nat → Bool
  | [] => true
  | i :: l => (match findH was i, findH now i with | some x, some y => Nat.beq x.length y.length | _, _ => false) && lensOk was now l
def putSt : St → List Nat → List SV → St
  | s, p :: ps, v :: vs => putSt (s.put (some p) v) ps vs
  | s, _, _ => s
/-- between two rounds; in one -/
def betweenS (s : St) (tk : List Nat) : St :=
  { s with heap := setAll s.heap (anew s.ks s.heap s.ks.length tk).2, ks := s.ks ++ (anew s.ks s.heap s.ks.length tk).1, t0 := [] }
/-- the assignments to the loop variables, where they are no more than that -/
def simpOps : List Oper → Option (List (Nat × Nat))
  | [] => some []
  | o :: r => match o.dst, o.op, o.guard, simpOps r with
    | some d, .assign (.tmp t), none, some l => some ((d, t) :: l)
    | _, _, _, _ => none
def simpA : Code → Option (List (Nat × Nat))
  | .skip => some []
  | .seq a b => match simpA a, simpA b with
    | some l, some m => some (l ++ m)
    | _, _ => none
  | .region _ ops false => simpOps ops.toList
  | _ => none
def putA : St → List (Nat × Nat) → Option St
  | s, [] => some s
  | s, (d, t) :: l => match getL s.tmps t with
    | some v => putA (s.put (some d) v) l
    | none => none
def roundS (s : St) (ybs : List Base) (ps : List Nat) (ysv : List SV) (l : List (Nat × Nat)) : Option St := putA (putSt { s with ks := s.ks ++ ybs } ps ysv) l
/-- but for the slots, what was known of the temporaries is so still -/
def keptT (sl : List Nat) : Nat → List (Option SV) → List (Option SV) → Bool
  | _, [], _ => true
  | n, none :: l, [] => false
  | n, some _ :: l, [] => false
  | n, none :: l, _ :: m => keptT sl (n + 1) l m
  | n, some v :: l, x :: m => (memN n sl || (match x with | some u => v.same u | none => false)) && keptT sl (n + 1) l m

/-- blocks that are tracked no longer -/
def dropF (ks : List Nat) : Facts → Facts
  | [] => []
  | (i, l) :: fs => if memN i ks then dropF ks fs else (i, l) :: dropF ks fs
def dropK (t : List (Option SV)) : List Nat → List Nat
  | [] => []
  | i :: l => match getL t i with
    | some (.ptr j _) => j :: dropK t l
    | _ => dropK t l
def dropS (s : St) (l : List Nat) : St := { s with heap := dropF (dropK s.tmps l) s.heap }
def dropsJ (c : Cfg) : Option Nat → List Nat
  | some r => c.dropJ r
  | none => []
def dropsOf (c : Cfg) : Option Nat → List Nat
  | some r => c.drops r
  | none => []

def exC (c : Cfg) : Nat → Code → (St → VC) → (Ex → St → VC) → St → VC
  | 0, _, _, _, _ => .bad "fuel"
  | n + 1, code, K, Kx, s =>
    match code with
    | .skip => K s
    | .label _ => K s
    | .region id ops draw =>
      if ops.toList.all noDefer then
        if draw then
          if wfS s && Region.noSelect ops then
            .start true s.t0 (keys s.heap) s.heap (exDrawR c (if memN id c.vary then [] else heldS c ops.toList s) ops K { s with drawn := true, t0 := [] })
          else .bad "draw: wf"
        else exSeq c ops ops.toList K s
      else .bad "region: defer" 
    | .seq a b =>
      match (firstReg b).bind c.joins with
      | none => exC c n a (fun s => exC c n b K Kx s) Kx s
      | some li =>
        (fun s0 : St => match touchKeys s0.tmps s0.heap li.touch with
        | some tk =>
          let bs := li.slots.map (·.2)
          let cs := contents s0.heap tk
          let cbs := sbases s0.ks cs
          let r := anew s0.ks s0.heap (s0.ks.length + bs.length) tk
          if wfS s0 && !memN li.i c.live then
            let s' : St := { s0 with
              tmps := putAll (forget s0.tmps (writes a)) s0.ks.length li.slots
              heap := setAll s0.heap r.2
              ks := s0.ks ++ (bs ++ r.1)
              t0 := [] }
            .cut li.i (bs ++ r.1) (keys s0.heap) s'.heap
              (exC { c with live := li.i :: c.live } n a (fun s2 =>
                match slotVals s2.tmps li.slots with
                | some vs2 =>
                  let cs2 := contents s2.heap tk
                  if wfS s2 && fitsAll s2.ks bs vs2 && fitsAll s2.ks cbs cs2 && keptF tk s2.heap s0.heap && lensOk s0.heap s2.heap tk && keptT (li.slots.map (·.1)) 0 s'.tmps s2.tmps && Nat.beq s2.tmps.length s'.tmps.length then
                    .leaf li.i (vs2 ++ cs2) s2.t0 s2.heap
                  else .bad "join: end"
                | none => .bad "join: slots at the end") Kx s0)
              (exC c n b K Kx s')
          else .bad "join: wf"
        | none => .bad "join: touch") (dropS s (dropsJ c (firstReg b)))
    | .cond x a b =>
      match s.ev x with
      | some (.bool p) =>
        match known s.path p with
        | some true => exC c n a K Kx s
        | some false => exC c n b K Kx s
        | none => .split p (exC c n a K Kx { s with path := (p, true) :: s.path }) (exC c n b K Kx { s with path := (p, false) :: s.path })
      | _ => .bad "cond"
    | .block id b => exC c n b K (fun e s => match e with
        | .exit j => if Nat.beq j id then K s else Kx (.exit j) s
        | e => Kx e s) s
    | .ret => Kx .ret s
    | .exit id => Kx (.exit id) s
    | .goto l => Kx (.goto l) s
    | .scope b =>
      if c.inRound then .bad "scope in a round" else
      exC c n b K (fun e s => match e with
        | .goto l => (match findLabel b l with
          | some rest => exC c n rest K (fun e s => match e with
            | .goto _ => .bad "goto"
            | e => Kx e s) s
          | none => .bad "goto: no label")
        | e => Kx e s) s
    | .loop b =>
      match (firstReg b).bind c.loops with
      | none => .bad "loop: not told"
      | some li =>
        (fun s0 : St => match slotVals s0.tmps li.slots, touchKeys s0.tmps s0.heap li.touch with
        | some vs, some tk =>
          let bs := li.slots.map (·.2)
          let cs := contents s0.heap tk
          let cbs := sbases s0.ks cs
          let r := anew s0.ks s0.heap (s0.ks.length + bs.length) tk
          if wfS s0 && wfL s0.ks.length vs && wfL s0.ks.length cs && fitsAll s0.ks bs vs && fitsAll s0.ks cbs cs && !memN li.i c.live then
            let s' : St := { s0 with
              tmps := putAll (forget s0.tmps (writes b)) s0.ks.length li.slots
              heap := setAll s0.heap r.2
              ks := s0.ks ++ (bs ++ r.1)
              t0 := [] }
            .loop li.i (vs ++ cs) (bs ++ r.1) s.t0 (keys s0.heap) s.heap s'.heap
              (exC { c with live := li.i :: c.live } n b (fun s2 =>
                match slotVals s2.tmps li.slots with
                | some vs2 =>
                  let cs2 := contents s2.heap tk
                  if wfS s2 && fitsAll s2.ks bs vs2 && fitsAll s2.ks cbs cs2 && keptF tk s2.heap s0.heap && lensOk s0.heap s2.heap tk && keptT (li.slots.map (·.1)) 0 s'.tmps s2.tmps && Nat.beq s2.tmps.length s'.tmps.length then
                    .leaf li.i (vs2 ++ cs2) s2.t0 s2.heap
                  else .bad "loop: round"
                | none => .bad "loop: slots at the end") Kx s')
          else .bad "loop: fits"
        | _, _ => .bad "loop: slots") (dropS s (dropsOf c (firstReg b)))
    | .rangeFunc f ps assign body =>
      if c.inRound || !c.ranged then .bad "rangeFunc: here" else
      match f with
      | .tmp ft =>
        match c.ranges ft, simpA assign with
        | some ri, some al =>
          (fun s0 : St => match s0.ev f, touchKeys s0.tmps s0.heap ri.touch with
          | some fv, some tk =>
            let cs := contents s0.heap tk
            let ra := anew s0.ks s0.heap s0.ks.length tk
            let sa := betweenS s0 tk
            match freshTys c.P sa.ks.length ri.tys with
            | some (ybs, ysv) =>
              match roundS sa ybs ps.toList ysv al with
              | none => .bad "range: assignment"
              | some sb =>
              if wfS s0 && fv.wf s0.ks.length && wfL s0.ks.length cs && fitsAll s0.ks (sbases s0.ks cs) cs && wfS sa && Nat.beq ps.size ysv.length && Nat.beq ysv.length ri.tys.length && !memN ri.i c.live then
                .range ri.i fv ybs ri.tys cs ra.1 s.t0 (keys s0.heap) s.heap sa.heap
                  (exC { c with live := ri.i :: c.live, inRound := true } n body (fun s2 =>
                    let cs2 := contents s2.heap tk
                    if wfS s2 && fitsAll s2.ks (sbases s0.ks cs) cs2 && keptF tk s2.heap s0.heap && lensOk s0.heap s2.heap tk then
                      .leaf ri.i cs2 s2.t0 s2.heap
                    else .bad "range: round")
                    (fun e s2 => .resume s2.t0 (keys s2.heap) s2.heap (Kx e { s2 with tmps := s0.tmps, t0 := [] }))
                    sb)
                  (K sa)
              else .bad "range: fits"
            | none => .bad "range: types"
          | _, _ => .bad "range: values") (dropS s (c.dropR ft))
        | _, _ => .bad "range: not told"
      | _ => .bad "range: operand"
    | .refuse why => .bad why

/-- the results of a function -/
def resS (P : Program) (s : St) : List ResultVar → Option (List SV)
  | [] => some []
  | .tmp t :: l => match getL s.tmps t, resS P s l with
    | some v, some vs => some (v :: vs)
    | _, _ => none
  | .cell a t :: l =>
    match getL s.tmps a, resS P s l, sizeT P t with
    | some (.ptr i off), some vs, some n =>
      (match findH s.heap i with
      | some cells =>
        (match isAggT P t with
        | some true => if Nat.ble (off + n) cells.length then some (.agg (takeN n (dropN off cells)) :: vs) else none
        | some false => (match cells[off]? with | some v => some (v :: vs) | none => none)
        | none => none)
      | none => none)
    | _, _, _ => none
def retS (ranged : Bool) (P : Program) (fn : Func) (s : St) : VC :=
  match resS P s fn.results.toList with
  | some [v] => if wfS s && v.wf s.ks.length then (if ranged then .leafM 0 [v] s.t0 s.heap else .leaf 0 [v] s.t0 s.heap) else .bad "ret: wf"
  | some vs => if wfS s && wfL s.ks.length vs then (if ranged then .leafM 0 [.tuple vs] s.t0 s.heap else .leaf 0 [.tuple vs] s.t0 s.heap) else .bad "ret: wf"
  | none => .bad "ret"

def padS : Nat → List (Option SV)
  | 0 => []
  | n + 1 => some undefS :: padS n

/-- the run of a function from its entry: ks, heap: what is known at the start -/
def exFn (c : Cfg) (f : Nat) (args : List SV) (ks : List Base) (heap : Facts) : VC :=
  match c.P.funcs[f]? with
  | none => .bad "no such function"
  | some fn =>
    match fn.body with
    | none => .bad "no body"
    | some b =>
      exC c 300 b (retS c.ranged c.P fn) (fun e s => match e with | .ret => retS c.ranged c.P fn s | _ => .bad "exit")
        { tmps := args.map some ++ padS (fn.ntmps - args.length), heap := heap, ks := ks, path := [], t0 := [], drawn := false, wr := c.wraps }

end Go.Sx
