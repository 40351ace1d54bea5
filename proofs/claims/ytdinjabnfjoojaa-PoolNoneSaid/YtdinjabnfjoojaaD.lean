/- What the methods that change a pool do. No conditions beyond those that each theorem names. -/
import Derived.Test.YtdinjabnfjoojaaC
set_option maxRecDepth 100000
set_option maxHeartbeats 1000000
set_option linter.unusedVariables false
set_option linter.unusedSimpArgs false
namespace Go.Proofs.Ytdinjabnfjoojaa
open Go.Sx

/-- the blocks of a pool are such -/
structure OkL (L : List Bk) : Prop where
  st : ∀ x ∈ L, 1 ≤ x.st ∧ x.st ≤ 4
  er : ∀ x ∈ L, 0 ≤ x.er ∧ x.er ≤ 1099511627776
  ne : L ≠ []
  len : L.length ≤ 4096
theorem OkL.set {L : List Bk} (h : OkL L) (i : Nat) (x : Bk) (h1 : 1 ≤ x.st ∧ x.st ≤ 4) (h2 : 0 ≤ x.er ∧ x.er ≤ 1099511627776) : OkL (L.set i x) := by
  refine ⟨fun y hy => ?_, fun y hy => ?_, fun e => ?_, by rw [List.length_set]; exact h.len⟩
  · rcases List.mem_or_eq_of_mem_set hy with hy | rfl
    · exact h.st y hy
    · exact h1
  · rcases List.mem_or_eq_of_mem_set hy with hy | rfl
    · exact h.er y hy
    · exact h2
  · have := congrArg List.length e
    rw [List.length_set] at this
    exact h.ne (List.eq_nil_of_length_eq_zero this)
theorem cn_bounds (L : List Bk) (t : Int) : 0 ≤ cn L t ∧ cn L t ≤ L.length := by
  have := List.length_filter_le (isSt t) L
  unfold cn
  omega
theorem cn_set {L : List Bk} : ∀ {i : Nat} {x : Bk} (y : Bk) (t : Int), L[i]? = some x → cn (L.set i y) t = cn L t - (if x.st = t then 1 else 0) + (if y.st = t then 1 else 0) := by
  induction L with
  | nil => intro i x y t h; simp at h
  | cons z L ih =>
    intro i x y t h
    cases i with
    | zero =>
      simp only [List.getElem?_cons_zero, Option.some.injEq] at h
      subst h
      simp only [List.set_cons_zero, cn, List.filter_cons, isSt]
      by_cases h1 : z.st = t <;> by_cases h2 : y.st = t <;> simp [h1, h2]
    | succ i =>
      have := ih y t (by simpa using h) (i := i)
      simp only [List.set_cons_succ, cn, List.filter_cons, isSt] at this ⊢
      by_cases h1 : z.st = t <;> simp [h1] at this ⊢ <;> omega
theorem Runs.toGives {P : Program} {f : Nat} {args : List Value} {w : World} {M : Nat → Prop} {r : Value} (h : Runs P f args w M (fun v w' => v = r ∧ Same w w')) : Gives P f args w r :=
  ⟨Calls.mono h.run fun e w' ⟨v, h1, ⟨h2, h3⟩, _⟩ => ⟨by rw [h1, h2], h3⟩⟩
theorem PoolAt.fits {w : World} {b : Nat} {s : Value} {L : List Bk} (h : PoolAt w b s L) {bs : List Base} {l : List Value} (hl : Fits bs l) : Fits ([.ptr, .slice, .int .i64, .int .i64, .int .i64, .int .i64, .int .i64] ++ bs) ([pt b, s] ++ cnV L ++ l) := by
  obtain ⟨a, c, e⟩ := h.mine.slice
  exact ⟨⟨_, rfl⟩, ⟨_, _, _, e⟩, ⟨_, rfl⟩, ⟨_, rfl⟩, ⟨_, rfl⟩, ⟨_, rfl⟩, ⟨_, rfl⟩, hl⟩

def cntS (L : List Bk) (st : Int) : Int := if 1 ≤ st ∧ st ≤ 4 then cn L st else 0
theorem c26 (b : Nat) (s : Value) (L : List Bk) (st : Int) (w : World) (h : PoolAt w b s L) (hL : L ≠ []) : Gives Try.prog 26 [pt b, .int .i64 st] w (.int .i64 (cntS L st)) := by
  have h0 := runs mix t26 rfl rfl (ε := [pt b, s, .int .i64 0, .int .i64 (cn L 1), .int .i64 (cn L 2), .int .i64 (cn L 3), .int .i64 (cn L 4), .int .i64 st]) (w := w) (M := fun x => x = b) (R := fun v w' => v = .int .i64 (cntS L st) ∧ Same w w') (h.fits (l := [.int .i64 st]) ⟨⟨_, rfl⟩, trivial⟩) ⟨h.blk, trivial⟩ (by simp [keys]) (by simp [keys]) (by simp [keys, nth, blkOf, vaddr]) ?_
  · exact Runs.toGives (M := fun x => x = b) (by simpa [SV.den, denL, IE.den, BE.den, nth, vint, vbool, vaddr, addO, addr_add] using h0)
  refine den_call_bool (b := false) (fun w1 h1 => ?_) rfl fun w1 w2 h1 h2 => den_norm (by simp only [List.cons_append, List.nil_append]; rfl) (den_split_false rfl ?_)
  · simpa [SV.den, denL, IE.den, BE.den, nth, vint, vbool, vaddr, addO, addr_add] using c30no (pt b) L w1 (h.same (shown_same h1)).r hL
  have s2 : Same w w2 := (shown_same h1).trans h2
  refine den_splitLt (fun h3 => den_leafA _ rfl fun w3 h4 => ⟨?_, s2.trans (shown_same h4)⟩) (fun h3 => den_splitLt (fun h4 => den_leafA _ rfl fun w3 h5 => ⟨?_, s2.trans (shown_same h5)⟩) (fun h4 => ?_))
  · have h3' : st < 1 := h3
    have : ¬ (1 ≤ st ∧ st ≤ 4) := by omega
    simp [SV.den, denL, IE.den, BE.den, nth, vint, vbool, vaddr, addO, addr_add, cntS, this]
  · have h4' : 4 < st := h4
    have : ¬ (1 ≤ st ∧ st ≤ 4) := by omega
    simp [SV.den, denL, IE.den, BE.den, nth, vint, vbool, vaddr, addO, addr_add, cntS, this]
  have h3' : 1 ≤ st := h3
  have h4' : st ≤ 4 := h4
  refine den_obLe (show (0 : Int) ≤ st by omega) (den_obLt (show st < (5 : Int) by omega) ?_)
  refine den_splitEq (fun e => ?_) (fun e0 => den_splitEq (fun e => den_leafA _ rfl fun w3 h5 => ⟨?_, s2.trans (shown_same h5)⟩) (fun e1 => den_splitEq (fun e => den_leafA _ rfl fun w3 h5 => ⟨?_, s2.trans (shown_same h5)⟩) (fun e2 => den_splitEq (fun e => den_leafA _ rfl fun w3 h5 => ⟨?_, s2.trans (shown_same h5)⟩) (fun e3 => den_splitEq (fun e => den_leafA _ rfl fun w3 h5 => ⟨?_, s2.trans (shown_same h5)⟩) (fun e4 => ?_)))))
  · have e' : st = 0 := e
    omega
  · have e' : st = 1 := e
    simp [SV.den, denL, IE.den, BE.den, nth, vint, vbool, vaddr, addO, addr_add, cntS, e']
  · have e' : st = 2 := e
    simp [SV.den, denL, IE.den, BE.den, nth, vint, vbool, vaddr, addO, addr_add, cntS, e']
  · have e' : st = 3 := e
    simp [SV.den, denL, IE.den, BE.den, nth, vint, vbool, vaddr, addO, addr_add, cntS, e']
  · have e' : st = 4 := e
    simp [SV.den, denL, IE.den, BE.den, nth, vint, vbool, vaddr, addO, addr_add, cntS, e']
  · have f1 : st ≠ 1 := e1
    have f2 : st ≠ 2 := e2
    have f3 : st ≠ 3 := e3
    have f4 : st ≠ 4 := e4
    omega

/-- turn(i, st) -/
theorem c32 (b : Nat) (s : Value) (L : List Bk) (i : Nat) (x : Bk) (st : Int) (w : World) (h : PoolAt w b s L) (hok : OkL L) (hx : L[i]? = some x) (hst : 1 ≤ st ∧ st ≤ 4) :
    Runs Try.prog 32 [pt b, .int .i64 i, .int .i64 st] w (fun y => y = b ∨ s.ownBlock = some y) (fun v w' => v = .tuple #[] ∧ PoolAt w' b s (L.set i ⟨x.er, st⟩)) := by
  obtain ⟨a, c, hsl⟩ := h.mine.slice
  have hil := (List.getElem?_eq_some_iff.1 hx).1
  have h0 := runs mix t32 rfl rfl (ε := [pt b, s, .int .i64 0, .int .i64 (cn L 1), .int .i64 (cn L 2), .int .i64 (cn L 3), .int .i64 (cn L 4), .int .i64 i, .int .i64 st]) (w := w) (M := fun y => y = b ∨ s.ownBlock = some y) (R := fun v w' => v = .tuple #[] ∧ PoolAt w' b s (L.set i ⟨x.er, st⟩)) (h.fits (l := [.int .i64 i, .int .i64 st]) ⟨⟨_, rfl⟩, ⟨_, rfl⟩, trivial⟩) ⟨h.blk, trivial⟩ (by simp [keys]) (by simp [keys]) (by simp [keys, nth, blkOf, vaddr]) ?_
  · simpa [SV.den, denL, IE.den, BE.den, nth, vint, vbool, vaddr, addO, addr_add] using h0
  have hxs := hok.st x (List.mem_of_getElem? hx)
  have hlen := hok.len
  have b1 := cn_bounds L 1
  have b2 := cn_bounds L 2
  have b3 := cn_bounds L 3
  have b4 := cn_bounds L 4
  have hset := fun t => cn_set (L := L) (i := i) (x := x) ⟨x.er, st⟩ t hx
  have ap : ∀ ad, vaddr s = some ad → ad.block ≠ b := fun ad had e => h.apart (by rw [h.mine.own had, e])
  refine den_start1 fun w1 h1 => ?_
  have m1 : Mine blkE 70 w1 s L := h.mine.same (shown_same h1)
  refine den_idxD (E := blkE) (L := L) x i [.int .i64 x.st] rfl (by decide) rfl hx ⟨⟨_, rfl⟩, trivial⟩ (fun m v hv => by cases m with | zero => exact hv | succ m => simp at hv) m1.arr (fun ad had => by have := ap ad had; simp [BlkIn, nth, blkOf, vaddr]; omega) (den_norm (by simp only [List.cons_append, List.nil_append]; rfl) ?_)
  refine den_obLe (show (0 : Int) ≤ x.st by omega) (den_obLt (show x.st < (5 : Int) by omega) ?_)
  refine den_splitEq (fun e => ?o0) (fun e0 => den_splitEq (fun e => ?o1) (fun e1 => den_splitEq (fun e => ?o2) (fun e2 => den_splitEq (fun e => ?o3) (fun e3 => den_splitEq (fun e => ?o4) (fun e4 => ?o5)))))
  case o0 =>
    have e' : x.st = 0 := e
    omega
  case o5 =>
    have f1 : x.st ≠ 1 := e1
    have f2 : x.st ≠ 2 := e2
    have f3 : x.st ≠ 3 := e3
    have f4 : x.st ≠ 4 := e4
    omega
  case o1 | o2 | o3 | o4 =>
    simp only [IE.den, nth, vint] at e
    refine den_ob64 (by simp only [IE.den, nth, vint]; omega) (den_obLe (show (0 : Int) ≤ x.st by omega) (den_obLt (show x.st < (5 : Int) by omega) (den_start1 fun w2 h2 => ?_)))
    have m2 : Mine blkE 70 w2 s L := m1.kept h2.kept fun g hg hin => by
      simp [BlkIn, nth, blkOf, vaddr] at hin
      exact h.apart (by rw [hg, hin])
    refine den_obLe (show (0 : Int) ≤ st by omega) (den_obLt (show st < (5 : Int) by omega) ?_)
    refine den_splitEq (fun f => ?n0) (fun f0 => den_splitEq (fun f => ?n1) (fun f1 => den_splitEq (fun f => ?n2) (fun f2 => den_splitEq (fun f => ?n3) (fun f3 => den_splitEq (fun f => ?n4) (fun f4 => ?n5)))))
    case n0 =>
      have f' : st = 0 := f
      omega
    case n5 =>
      have g1 : st ≠ 1 := f1
      have g2 : st ≠ 2 := f2
      have g3 : st ≠ 3 := f3
      have g4 : st ≠ 4 := f4
      omega
    case n1 | n2 | n3 | n4 =>
      simp only [IE.den, nth, vint] at f
      refine den_ob64 (by simp only [IE.den, nth, vint]; omega) (den_obLe (show (0 : Int) ≤ st by omega) (den_obLt (show st < (5 : Int) by omega) (den_obLe (show (0 : Int) ≤ (i : Int) by omega) (den_obLt (by simp [IE.den, nth, vint, vlen, hsl]; exact hil) ?_))))
      refine den_storeM (E := blkE) (T := 70) s L i x ⟨x.er, st⟩ (.int .i64 st) [.int .i64 st] (by kernel_rfl) rfl rfl rfl hx rfl rfl rfl (by intro u hu; simp at hu; subst hu; rfl) (by simp [blkE]) (by decide) rfl (fun w3 h3 => m2.kept h3.kept fun g hg hin => ?_) (fun w3 h3 g hg => ?_) ⟨w2, m2⟩ (fun w3 w4 h3 hm hk => den_leafA _ rfl fun w5 h5 => ⟨rfl, ?_, hm.same (shown_same h5), h.apart⟩)
      · simp [BlkIn, nth, blkOf, vaddr] at hin
        exact h.apart (by rw [hg, hin])
      · refine ⟨fun hd => (by cases hd), fun _ => .inr hg, fun hin => ?_, fun hx => (by cases hx)⟩
        simp [BlkIn, nth, blkOf, vaddr] at hin
        exact h.apart (by rw [hg, hin])
      · have := h5.facts.1
        unfold cnV
        rw [hset 1, hset 2, hset 3, hset 4]
        simpa [e, f, SV.den, denL, IE.den, BE.den, nth, vint, vbool, vaddr, addO, addr_add] using this
end Go.Proofs.Ytdinjabnfjoojaa
