/- What the closures of the methods return. No conditions beyond those that each theorem names. -/
import Derived.Test.YtfjlnfgbfclgbaaF
set_option maxRecDepth 100000
set_option maxHeartbeats 1000000
set_option linter.unusedVariables false
set_option linter.unusedSimpArgs false
namespace Go.Proofs.Ytfjlnfgbfclgbaa
open Go.Sx

theorem u69 : Try.prog.underlying 69 = some (.map 5 5) := Try.underlying69
theorem zv5 : ∀ w, (zeroValue 5).run Try.prog w = .ok (.int .u8 0) w := fun w => by
  have : Try.prog.info? 5 = some Try.t5 := by kernel_rfl
  have hz : Try.t5.zero = some (.int .u8 0) := by kernel_rfl
  simp [zeroValue, typeInfo, this, hz]
theorem c44 (n : Ntc) (pv b m : Nat) (s1 s2 : Value) (e : Ev) (w : World) (hp : PtsTo w (pt pv) [pt b]) (h : EvAt w b m s1 s2 e) : Gives Try.prog 44 [n.v, pt pv] w (.bool (!(e.B n.t).isSome)) := by
  obtain ⟨t, i, p⟩ := n
  have hr := gives (r := .bool (!(e.B t).isSome)) (w := w) mix t44 rfl rfl (ε := [.int .u8 t, .int .u8 i, .int .u8 p, pt pv]) ⟨⟨_, rfl⟩, ⟨_, rfl⟩, ⟨_, rfl⟩, ⟨_, rfl⟩, trivial⟩ ?_
  · simpa [SV.den, denL, IE.den, BE.den, nth, vint, vbool, vaddr, addO, addr_add, Ntc.v] using hr
  refine den_blk fun b4 k4 _ _ => den_norm (by simp only [List.cons_append, List.nil_append]; rfl) ?_
  have z4 : w.heap.size ≤ b4 := k4
  have lpv := hp.lt (by simp) pv rfl
  have lb := h.lt
  intro w1 h1
  refine ⟨fun x => x = b4, fun x hx => by simp [BlkIn, nth, blkOf, vaddr] at hx; exact hx.symm, ?_⟩
  have hp1 := hp.same h1.base
  have E1 := h.same h1.base
  refine den_ldpD [pt b] [pt b] ⟨⟨_, rfl⟩, trivial⟩ (whole _) hp1 (fun x hx hx2 => by have e1 : pv = x := Option.some.inj hx; omega) (den_norm (by simp only [List.cons_append, List.nil_append]; rfl) ?_)
  refine den_notnil (i := 5) E1.blk.pts ?_
  refine den_ldpD (i := 5) [.map (some m)] _ ⟨⟨_, rfl⟩, trivial⟩ (cellk _ 4 _ rfl) E1.blk.pts (fun x hx hx2 => by have e1 : b = x := Option.some.inj hx; omega) (den_norm (by simp only [List.cons_append, List.nil_append]; rfl) ?_)
  refine den_lookup (ky := .u8) (vy := .u8) m e.B u69 u5 zv5 rfl (fun wa ha => (h.same ha.base).map) (fun v u => rfl) (fun v u => rfl) (fun w13 w14 h13 h14 => den_norm (by simp only [List.cons_append, List.nil_append]; rfl) (den_leaf ?_))
  simp [denL, SV.den, BE.den, IE.den, nth, vint, vbool]
theorem c37 (n : Ntc) (hn : n.Ok) (pc : Nat) (c : Int) (hc : 0 ≤ c ∧ c < 4294967296) (w : World) (hp : PtsTo w (pt pc) [.int .u32 c]) : Gives Try.prog 37 [n.v, pt pc] w (.bool (!enI n.t n.i c)) := by
  have h14 := c14 n hn c hc
  obtain ⟨t, i, p⟩ := n
  have hr := gives (r := .bool (!enI t i c)) (w := w) mix t37 rfl rfl (ε := [.int .u8 t, .int .u8 i, .int .u8 p, pt pc]) ⟨⟨_, rfl⟩, ⟨_, rfl⟩, ⟨_, rfl⟩, ⟨_, rfl⟩, trivial⟩ ?_
  · simpa [SV.den, denL, IE.den, BE.den, nth, vint, vbool, vaddr, addO, addr_add, Ntc.v] using hr
  refine den_blk fun b4 k4 _ _ => den_norm (by simp only [List.cons_append, List.nil_append]; rfl) ?_
  refine den_ldp [.int .u32 c] _ ⟨⟨_, rfl⟩, trivial⟩ (whole _) (fun w1 h1 => hp.same h1.base) (fun _ _ => by simp [BlkIn]) fun w1 h1 => den_norm (by simp only [List.cons_append, List.nil_append]; rfl) ?_
  exact den_call_bool (b := enI t i c) (fun w2 _ => h14 w2) rfl (fun _ _ _ _ => den_norm (by simp only [List.cons_append, List.nil_append]; rfl) (den_leaf rfl))
theorem c58 (x id : Int) (pi : Nat) (w : World) (hp : PtsTo w (pt pi) [.int .u16 id]) : Gives Try.prog 58 [.int .u16 x, pt pi] w (.bool (decide (x = id))) := by
  have hr := gives (r := .bool (decide (x = id))) (w := w) mix t58 rfl rfl (ε := [.int .u16 x, pt pi]) ⟨⟨_, rfl⟩, ⟨_, rfl⟩, trivial⟩ ?_
  · simpa [SV.den, denL, IE.den, BE.den, nth, vint, vbool, vaddr, addO, addr_add] using hr
  exact den_ldp [.int .u16 id] _ ⟨⟨_, rfl⟩, trivial⟩ (whole _) (fun w1 h1 => hp.same h1.base) (fun _ _ => by simp [BlkIn]) fun w1 h1 => den_norm (by simp only [List.cons_append, List.nil_append]; rfl) (den_leaf rfl)
theorem c47 (k v pg : Int) (pp : Nat) (w : World) (hp : PtsTo w (pt pp) [.int .u8 pg]) : Gives Try.prog 47 [.int .u8 k, .int .u8 v, pt pp] w (.bool (decide (v = pg))) := by
  have hr := gives (r := .bool (decide (v = pg))) (w := w) mix t47 rfl rfl (ε := [.int .u8 k, .int .u8 v, pt pp]) ⟨⟨_, rfl⟩, ⟨_, rfl⟩, ⟨_, rfl⟩, trivial⟩ ?_
  · simpa [SV.den, denL, IE.den, BE.den, nth, vint, vbool, vaddr, addO, addr_add] using hr
  exact den_ldp [.int .u8 pg] _ ⟨⟨_, rfl⟩, trivial⟩ (whole _) (fun w1 h1 => hp.same h1.base) (fun _ _ => by simp [BlkIn]) fun w1 h1 => den_norm (by simp only [List.cons_append, List.nil_append]; rfl) (den_leaf rfl)
end Go.Proofs.Ytfjlnfgbfclgbaa
