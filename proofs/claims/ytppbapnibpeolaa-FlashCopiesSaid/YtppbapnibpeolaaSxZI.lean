/- Part ZF of a symbolic run of Go code by computation: its states, conditions and the proof that a condition that holds says what the function returns. No conditions of its own. -/
import Derived.Test.YtppbapnibpeolaaSxZE
import Derived.Laws.BytesArg
import Derived.Laws.IdiomCopy
import Derived.MapKept
set_option linter.unusedVariables false
set_option linter.unusedSimpArgs false
namespace Go.Sx
open Go.RowKit

section
variable {G : Ctx} {Λ : Nat → List Value → World → Prop} {ε : List Value} {wx ws : World} {X : Nat → Prop} {k k' : VC}
end
end Go.Sx

/- Part ZG of a symbolic run of Go code by computation: its states, conditions and the proof that a condition that holds says what the function returns. No conditions of its own. -/
set_option linter.unusedVariables false
set_option linter.unusedSimpArgs false
namespace Go.Sx
open Go.RowKit

/-! bytes, and strings of bytes -/
def byteE : Enc Int := ⟨fun n => [.int .u8 n], 1, fun _ => rfl⟩
theorem byte_flat (D : List Int) : D.flatMap byteE.enc = D.map (Value.int .u8) := by
  induction D with
  | nil => rfl
  | cons x D ih => simp [byteE] at ih ⊢; exact ih
theorem byte_one (x : Int) : ∀ u ∈ byteE.enc x, u.oneCell' = true := by intro u hu; simp [byteE] at hu; subst hu; rfl
def strV (D : List Int) : Value := .string (strOfNums D)
def strEq (D D' : List Int) : Bool := (strOfNums D).toList == (strOfNums D').toList
theorem strEq_refl (D : List Int) : strEq D D = true := by simp [strEq]

theorem run_str {P : Program} {src e dst : TypeId} (hs : P.underlying src = some (.slice e)) (he : P.underlying e = some (.int .u8)) (hd : P.underlying dst = some .string) {w : World} {s : Value} {D : List Int} (h : Arr byteE w s D) :
    (convert src dst s).run P w = .ok (strV D) w := by
  obtain ⟨a, c, rfl⟩ := h.slice
  cases a with
  | none =>
    obtain ⟨rfl, _⟩ := h.none (by decide)
    exact run_convert_bytes_nil w src e hs he _ c dst hd
  | some a =>
    have hl : (loadCells a D.length).run P w = .ok (D.map (Value.int .u8)).toArray w := by
      have := run_loadCells_list (P := P) w a (D.map (Value.int .u8)) (fun j v hj => by
        obtain ⟨ad, had, hc⟩ := Reads.cell h j v (by rw [byte_flat]; exact hj)
        cases had
        exact hc)
      simpa using this
    rw [run_convert_bytes_string w src dst e _ D.length c hs he hd, run_bytesToString w _ D.length c D hl, foldl_push_bytes]
    simp [strV, strOfNums, ByteArray.empty, ByteArray.emptyWithCapacity]
    rfl

section
variable {G : Ctx} {Λ : Nat → List Value → World → Prop} {ε : List Value} {wx ws : World} {X : Nat → Prop} {k k' : VC}
/-- string(s) -/
theorem den_str {src dst e type : TypeId} {x : Operand} {sx : SV} {j : Nat} (D : List Int) (s : Value) (hs : G.P.underlying src = some (.slice e)) (he : G.P.underlying e = some (.int .u8)) (hd : G.P.underlying dst = some .string)
    (hx : sx.den ε = s) (hA : Arr byteE ws s D) (hX : ∀ ad, vaddr s = some ad → ad.block < ws.heap.size → ¬ X ad.block) (hj : ∀ v, nth (ε ++ [v]) j = v) (hk : k.den G Λ (ε ++ [strV D]) wx ws X) :
    (VC.pur (.convert src dst x) type [(x, sx)] [Base.any] (.var j) k).den G Λ ε wx ws X := by
  refine den_pur [strV D] ⟨rfl, trivial⟩ (fun ρ hρ w' hk' => ?_) hk
  have e1 : ρ x = s := by have := hρ (x, sx.den ε) (by simp); rw [this, hx]
  have := run_str hs he hd (hA.kept hk' hX)
  simp only [SV.den, hj]
  simp [execOp, bare, e1, this]
theorem den_strEq {t₀ type : TypeId} {x y : Operand} {p : Nat} {sx sy : SV} {j : Nat} (D D' : List Int) (hx : sx.den ε = strV D) (hy : sy.den ε = strV D') (hj : ∀ v, nth (ε ++ [v]) j = v) (hk : k.den G Λ (ε ++ [.bool (strEq D D')]) wx ws X) :
    (VC.pur (.binOp .eql t₀ x y p) type [(x, sx), (y, sy)] [Base.bool] (.bool (.var j)) k).den G Λ ε wx ws X := by
  refine den_pur [.bool (strEq D D')] ⟨⟨_, rfl⟩, trivial⟩ (fun ρ hρ w' _ => ?_) hk
  have e1 : ρ x = strV D := by have := hρ (x, sx.den ε) (by simp); rw [this, hx]
  have e2 : ρ y = strV D' := by have := hρ (y, sy.den ε) (by simp); rw [this, hy]
  simp only [SV.den, BE.den, hj, vbool]
  simp [execOp, bare, e1, e2, strV, strEq, go_sem, Result.andThen]
end

section
variable {G : Ctx} {Λ : Nat → List Value → World → Prop} {ε : List Value} {wx ws : World} {X : Nat → Prop} {k k' : VC}
/-- two ways that come together -/
theorem den_cut {i : Nat} {bs : List Base} {t' : List Nat} {fs' : Facts} {ka kb : VC} (I : List Value → World → Prop) (ha : ka.den G (LoopΛ i I Λ) ε wx ws X)
    (hb : ∀ l w', Fits bs l → I l w' → Kept G.M G.W0 w' → FactsAt (ε ++ l) w' fs' → kb.den G Λ (ε ++ l) w' w' (BlkIn (ε ++ l) t')) : (VC.cut i bs t' fs' ka kb).den G Λ ε wx ws X :=
  ⟨I, ha, allB_intro fun l hl w' hI hk hf => hb l w' hl hI hk hf⟩
end

section
variable {G : Ctx} {Λ : Nat → List Value → World → Prop} {ε : List Value} {wx ws : World} {X : Nat → Prop} {k k' : VC}
end
end Go.Sx

/- Part ZH of a symbolic run of Go code by computation: its states, conditions and the proof that a condition that holds says what the function returns. No conditions of its own. -/
set_option linter.unusedVariables false
set_option linter.unusedSimpArgs false
namespace Go.Sx
open Go.RowKit

section
variable {G : Ctx} {Λ : Nat → List Value → World → Prop} {ε : List Value} {wx ws : World} {X : Nat → Prop} {k k' : VC}
end
end Go.Sx

/- Part ZI of a symbolic run of Go code by computation: its states, conditions and the proof that a condition that holds says what the function returns. No conditions of its own. -/
set_option linter.unusedVariables false
set_option linter.unusedSimpArgs false
namespace Go.Sx
open Go.RowKit

/-! maps whose keys and elements are integers -/
section
variable {ky vy : IntKind} {w w' : World} {b : Nat} {f : Int → Option Int}
variable {P : Program} {t kt et : TypeId}
end

section
variable {G : Ctx} {Λ : Nat → List Value → World → Prop} {ε : List Value} {wx ws : World} {X : Nat → Prop} {k k' : VC}
end
end Go.Sx
