/- What the functions of the law FormatPlaces return, each for every argument that its theorem names. No conditions beyond those. -/
import Derived.Test.YtngemhmjpphpaaaC
import Derived.Test.YtngemhmjpphpaaaProg
import Derived.KernelRfl
set_option maxRecDepth 100000
set_option maxHeartbeats 4000000
set_option linter.unusedVariables false
set_option linter.unusedSimpArgs false
namespace Go.Proofs.Ytngemhmjpphpaaa
open Go.Sx

theorem c38 (w : World) : Gives Try.prog 38 [] w (fmtV 512 8 false 1 false) := by
  refine gives mix t38 rfl rfl (ε := []) trivial (den_blk fun b _ _ _ => den_leaf rfl)
theorem g10 (w : World) : Gives Try.prog 10 [fmtV 512 8 false 1 false, .int .i64 17] w (.tuple #[.int .i64 2, .int .i64 1, .int .i64 0]) := by
  have h := c10 512 8 false 1 false 17 (by decide) w
  rwa [show plS 512 8 false 1 false 17 = 2 by decide +kernel, show plI 512 8 false 1 false 17 = 1 by decide +kernel, show plE 512 8 false 1 false 17 = 0 by decide +kernel] at h
theorem g12 (w : World) : Gives Try.prog 12 [fmtV 512 8 false 1 false, .int .i64 17] w (.tuple #[.int .i64 3, .int .i64 0]) := by
  have h := c12 512 8 false 1 false 17 (by decide) w
  rwa [show scN 512 8 false 1 false 17 = 3 by decide +kernel, show plE 512 8 false 1 false 17 = 0 by decide +kernel] at h
theorem g16a (w : World) : Gives Try.prog 16 [fmtV 512 8 false 1 false] w (.int .i64 8) := by
  have h := c16 512 8 false 1 false w
  rwa [show per 512 8 false 1 false = 8 by decide +kernel] at h
theorem g16b (w : World) : Gives Try.prog 16 [fmtV 4096 0 false 0 false] w (.int .i64 1) := by
  have h := c16 4096 0 false 0 false w
  rwa [show per 4096 0 false 0 false = 1 by decide +kernel] at h
theorem g16c (w : World) : Gives Try.prog 16 [fmtV 512 64 false 1 false] w (.int .i64 7) := by
  have h := c16 512 64 false 1 false w
  rwa [show per 512 64 false 1 false = 7 by decide +kernel] at h
theorem g23a (w : World) : Gives Try.prog 23 [fmtV 512 8 false 1 false, .int .i64 2, .bool false, .int .i64 1024, .int .i64 16, .int .i64 0] w (.bool true) :=
  (c23 512 8 false 1 false 2 false 1024 16 0 w).to (congrArg Value.bool (by decide +kernel))
theorem g23b (w : World) : Gives Try.prog 23 [fmtV 512 8 false 1 false, .int .i64 2, .bool true, .int .i64 1024, .int .i64 0, .int .i64 0] w (.bool true) :=
  (c23 512 8 false 1 false 2 true 1024 0 0 w).to (congrArg Value.bool (by decide +kernel))
theorem g23c (w : World) : Gives Try.prog 23 [fmtV 512 8 true 1 false, .int .i64 2, .bool false, .int .i64 1040, .int .i64 0, .int .i64 0] w (.bool true) :=
  (c23 512 8 true 1 false 2 false 1040 0 0 w).to (congrArg Value.bool (by decide +kernel))
theorem g23d (w : World) : Gives Try.prog 23 [fmtV 4096 0 false 0 false, .int .i64 2, .bool true, .int .i64 0, .int .i64 0, .int .i64 2] w (.bool true) :=
  (c23 4096 0 false 0 false 2 true 0 0 2 w).to (congrArg Value.bool (by decide +kernel))
theorem g21a (a a' : Option Addr) (w : World) : Gives Try.prog 21 [fmtV 512 8 false 1 false, .int .i64 1, .bool false, .slice a 512 512, .slice a' 7 7] w (.tuple #[.slice none 0 0, .int .i64 4]) :=
  c21err 512 8 false 1 false 1 false a a' 512 512 7 7 4 (by decide +kernel) (by decide) w
theorem g21b (w : World) : GivesR Try.prog 21 [fmtV 512 8 false 1 false, .int .i64 0, .bool false, .slice none 0 0, .slice none 0 0] w (fun v _ => ∃ l : List Value, Fits [Base.slice, Base.int .i64] l ∧ v = .tuple l.toArray ∧ ∃ a c, l = [.slice a 0 c, .int .i64 0]) :=
  (c21zero 512 8 false 1 false false none none 0 0 (by decide +kernel) w).mono fun v w' ⟨a, c, h⟩ => ⟨[.slice a 0 c, .int .i64 0], ⟨⟨_, _, _, rfl⟩, ⟨_, rfl⟩, trivial⟩, h, a, c, rfl⟩
theorem den_make40 {w0 : World} {Λ : Nat → List Value → World → Prop} {ε : List Value} {wx ws : World} {X : Nat → Prop} {k : VC} {type : TypeId} {x y : Operand} {m : Int} {kx ky : IntKind} (n : Nat) (hm : m = n) (hn : n ≤ 100000000) {drawn : Bool} {j : Nat} {t t' un : List Nat} {fs : Facts}
    (hj : ∀ v, nth (ε ++ [v]) j = v)
    (hk : ∀ w b w', Shown (G0 Try.prog w0) ε t fs wx w → w.heap.size ≤ b → w'.heap[b]? = some (.cells (madeCells (Value.int .u8 0).cells (n * 1)) 5 (0, 0)) → Same w w' →
      k.den (G0 Try.prog w0) Λ (ε ++ [.slice (some ⟨b, 0, none⟩) n n]) w' (if drawn then ws else w') (if drawn then X else BlkIn ε t')) :
    (VC.gen (.makeSlice 40 x y) type [(x, .int kx (.lit m)), (y, .int ky (.lit m))] [Base.slice] (.var j) [] drawn t t' un fs k).den (G0 Try.prog w0) Λ ε wx ws X :=
  den_make (n := n) (i := Try.t5) (z := .int .u8 0) Try.underlying40 (by kernel_rfl) (by kernel_rfl) hm hm (by rw [show Try.t5.bytes = 1 by kernel_rfl]; omega) (by omega) hj hk
theorem den_norm {G : Ctx} {Λ : Nat → List Value → World → Prop} {ε ε' : List Value} {wx ws : World} {X : Nat → Prop} {k : VC} (h : ε = ε') (hk : k.den G Λ ε' wx ws X) : k.den G Λ ε wx ws X := h ▸ hk
end Go.Proofs.Ytngemhmjpphpaaa
