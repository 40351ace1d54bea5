/- What is kept stays: the plain law behind FlashHolds. No conditions beyond those that each theorem names. -/
import Derived.Test.YtppbapnibpeolaaR
set_option maxRecDepth 100000
set_option maxHeartbeats 2000000
set_option linter.unusedVariables false
set_option linter.unusedSimpArgs false
namespace Go.Proofs.Ytppbapnibpeolaa
open Go.Sx

theorem cutD_bs (d : Dv) (o c : Int) : (d.cutD o c).bs = d.bs := by unfold Dv.cutD; split <;> rfl
/-! calls whose slices are slices -/
def AvS := { v : Av // (∃ a n c, v.sd = .slice a n c) ∧ ∃ a n c, v.ss = .slice a n c }
def asE : Enc AvS := ⟨fun v => v.1.cells, 5, fun _ => rfl⟩
theorem as_one (x : AvS) : ∀ u ∈ asE.enc x, u.oneCell' = true := by
  obtain ⟨v, ⟨a, n, c, e1⟩, ⟨a', n', c', e2⟩⟩ := x
  intro u hu
  simp only [asE, Av.cells, List.mem_cons, List.not_mem_nil, or_false] at hu
  rcases hu with rfl | rfl | rfl | rfl | rfl
  · rfl
  · rfl
  · rfl
  · rw [e1]; rfl
  · rw [e2]; rfl
theorem u25 : Try.prog.underlying 25 = some (.slice 28) := by kernel_rfl
theorem i28 : Try.prog.info? 28 = some Try.t28 := by kernel_rfl
theorem z28 : Try.t28.zero = some (.agg #[.int .i64 0, .int .i64 0, .int .i64 0, nilS, nilS]) := by kernel_rfl
theorem s28 : Try.t28.size = asE.sz := by kernel_rfl
theorem by28 : Try.t28.bytes ≤ 1000 := by decide +kernel
section
variable {w0 w w' : World} {S T S' T' M : Nat → Prop} {gk nb : Nat} {Kv : List Value} {KL : List (List AvS)} {KA : List (List Ac)}
end
end Go.Proofs.Ytppbapnibpeolaa
