/- Bytes: slices that are made, copied, joined and compared. No conditions beyond those that each theorem names. -/
import Derived.Test.YtppbapnibpeolaaB
set_option maxRecDepth 100000
set_option maxHeartbeats 2000000
set_option linter.unusedVariables false
set_option linter.unusedSimpArgs false
namespace Go.Proofs.Ytppbapnibpeolaa
open Go.Sx Go.RowKit

theorem u26 : Try.prog.underlying 26 = some (.slice 5) := by kernel_rfl
theorem u5 : Try.prog.underlying 5 = some (.int .u8) := by kernel_rfl
theorem u9 : Try.prog.underlying 9 = some .string := by kernel_rfl
theorem u3 : Try.prog.underlying 3 = some (.int .i64) := by kernel_rfl
theorem i5 : Try.prog.info? 5 = some Try.t5 := by kernel_rfl
theorem z5 : Try.t5.zero = some (.int .u8 0) := by kernel_rfl
theorem s5 : Try.t5.size = byteE.sz := by kernel_rfl
theorem by5 : Try.t5.bytes ≤ 1000 := by decide +kernel
theorem hb5 : Try.t5.bytes = 1 := by decide +kernel
theorem st5 : sizeT Try.prog 5 = some 1 := by kernel_rfl
theorem u79 : Try.prog.underlying 79 = some (.slice 78) := by kernel_rfl
theorem i78 : Try.prog.info? 78 = some Try.t78 := by kernel_rfl
theorem z78 : Try.t78.zero = some (.agg #[.slice none 0 0, .int .i64 0]) := by kernel_rfl
theorem s78 : Try.t78.size = pgE.sz := by kernel_rfl
theorem by78 : Try.t78.bytes ≤ 1000 := by decide +kernel

theorem made_flat {α : Type} (E : Enc α) (x : α) (z : Array Value) (hz : z.toList = E.enc x) (hpos : 0 < E.sz) (n : Nat) : (madeCells z (n * E.sz)).toList = (List.replicate n x).flatMap E.enc := by
  have hsz : z.size = E.sz := by rw [← Array.length_toList, hz, E.len]
  apply List.ext_getElem?
  intro j
  by_cases hj : j < n * E.sz
  · have hi : j / E.sz < n := (Nat.div_lt_iff_lt_mul hpos).2 hj
    have hm : j % E.sz < E.sz := Nat.mod_lt _ hpos
    have h1 := flatMap_get E (List.replicate n x) (j / E.sz) x (j % E.sz) ((E.enc x)[j % E.sz]'(by rw [E.len]; exact hm)) (by simp [hi]) (by simp)
    have hj2 : j / E.sz * E.sz + j % E.sz = j := by rw [Nat.mul_comm]; exact Nat.div_add_mod j E.sz
    rw [hj2] at h1
    rw [h1]
    have hlt : j % z.size < z.size := by rw [hsz]; exact hm
    have h2 : z.toList[j % z.size]? = some ((E.enc x)[j % E.sz]'(by rw [E.len]; exact hm)) := by
      rw [hz, hsz]; simp
    rw [Array.getElem?_toList] at h2
    simp only [madeCells, Array.toList_map, List.getElem?_map, Array.toList_range, List.getElem?_range hj, Option.map_some]
    rw [getElem!_pos z _ hlt]
    rw [Array.getElem?_eq_getElem hlt] at h2
    exact h2
  · rw [List.getElem?_eq_none (by simp [madeCells]; omega), List.getElem?_eq_none (by rw [flatMap_length]; simp; omega)]
/-- a new slice of zeros -/
theorem mine_made {α : Type} {E : Enc α} {T : TypeId} {w : World} {b m sz : Nat} (x : α) (z : Value) (hz : z.cells.toList = E.enc x) (hpos : 0 < E.sz) (hsz : sz = E.sz) (hm : m ≤ 65000000000) (h : w.heap[b]? = some (.cells (madeCells z.cells (m * sz)) T (0, 0))) : Mine E T w (.slice (some ⟨b, 0, none⟩) m m) (List.replicate m x) := by
  subst hsz
  refine .inl ⟨by rw [flatMap_length], .inr ⟨b, m, _, by simp, Nat.zero_le _, h, by simp, by simp [maxLen]; omega, by simp [size_madeCells], ?_⟩⟩
  rw [made_flat E x _ hz hpos, List.take_of_length_le (by rw [flatMap_length]; exact Nat.le_refl _)]
/-- append(nil, make([]T, n)...) -/
theorem run_appendMade {P : Program} {t k ty T : TypeId} {i : TypeInfo} {z : Value} (ht : P.underlying t = some (.slice T)) (hk : P.underlying k = some (.int .i64)) (hi : P.info? T = some i) (hz : i.zero = some z) (hsize : i.size = 1) (hzs : z.cells.size = 1) (hb1 : i.bytes = 1) (w : World) (n : Nat) (h0 : 0 < n) (hn : n ≤ 60000000000) :
    ∃ v w', (Builtin.append_ #[t, k] ty #[.slice none 0 0, .int .i64 n]).run P w = .ok v w' ∧ (∃ g c cur, v = .slice (some ⟨g, 0, none⟩) n c ∧ n ≤ c ∧ c ≤ maxLen ∧ w.heap.size ≤ g ∧ w'.heap[g]? = some (.cells cur T (0, 0)) ∧ cur.size = c) ∧ Same w w' := by
  have hn0 : ¬ (n * i.size = 0) := by rw [hsize]; omega
  have e1 : IntKind.wrap .i64 (n : Int) = n := by
    rw [IntKind.wrap_i64]
    omega
  have h1 : ¬ ((n : Int) < 0) := by omega
  have h2 : ¬ (281474976710656 < (n : Int) * (i.bytes : Int)) := by rw [hb1]; omega
  have h3 : ¬ (9223372036854775807 < (n : Int)) := by omega
  have h4 : ¬ (281474976710656 < Builtin.nextslicecap n 0 * i.bytes) := by rw [nextslicecap_zero h0, hb1]; omega
  have hnn : n ≠ 0 := by omega
  refine ⟨.slice (some ⟨w.heap.size, 0, none⟩) n (grownCap w n 0 T), w.drew.alloc (.cells (#[] ++ Builtin.zeroCells z.cells n ++ Builtin.zeroCells z.cells (grownCap w n 0 T - n)) T), ?_, ⟨w.heap.size, grownCap w n 0 T, _, rfl, grownCap_ge w n 0 T, grownCap_le_maxLen w n 0 T (by simp [maxLen]; omega), Nat.le_refl _, by simpa using heap_alloc_new w.drew _, ?_⟩, (Kept.refl _ w).drew.alloc _⟩
  · simp [Builtin.append_, run_underlying ht, run_underlying hk, sizeOf, typeInfo, zeroValue, hi, hz, Builtin.lenOf, e1, h1, h2, h3, h4, hnn, hsize, Question.forced, run_firstCells_none, newRow, grownCap, asInt, asIntOf]
  · have := grownCap_ge w n 0 T
    simp [size_zeroCells, hzs]
    omega
section
variable {G : Ctx} {Λ : Nat → List Value → World → Prop} {ε : List Value} {wx ws : World} {X : Nat → Prop} {k k' : VC}
theorem den_appendMade {t₀ kt type T : TypeId} {i : TypeInfo} {z : Value} {x y : Operand} {sx : SV} {e : IE} {j : Nat} {drawn : Bool} {t t' un : List Nat} {fs : Facts} {cl : Call} (hcl : cl = { callee := .builtin .append, args := #[x, y], argTypes := #[t₀, kt] })
    (ht : G.P.underlying t₀ = some (.slice T)) (hkt : G.P.underlying kt = some (.int .i64)) (hi : G.P.info? T = some i) (hz : i.zero = some z) (hsize : i.size = 1) (hzs : z.cells.size = 1) (hb1 : i.bytes = 1) (n : Nat) (h0 : 0 < n) (hn : n ≤ 60000000000) (hx : sx.den ε = .slice none 0 0) (he : e.den ε = n) (hj : ∀ v, nth (ε ++ [v]) j = v)
    (hk : ∀ w g c cur w', Shown G ε t fs wx w → n ≤ c → c ≤ maxLen → w.heap.size ≤ g → w'.heap[g]? = some (.cells cur T (0, 0)) → cur.size = c → Same w w' → k.den G Λ (ε ++ [.slice (some ⟨g, 0, none⟩) n c]) w' (if drawn then ws else w') (if drawn then X else BlkIn ε t')) :
    (VC.gen (.call cl) type [(x, sx), (y, .int .i64 e)] [Base.slice] (.var j) [] drawn t t' un fs k).den G Λ ε wx ws X := by
  subst hcl
  refine den_gen (fun w l w' => ∃ g c cur, l = [.slice (some ⟨g, 0, none⟩) n c] ∧ n ≤ c ∧ c ≤ maxLen ∧ w.heap.size ≤ g ∧ w'.heap[g]? = some (.cells cur T (0, 0)) ∧ cur.size = c) ?_ ?_
  · intro w hw ρ hρ
    have e1 : ρ x = .slice none 0 0 := by have := hρ (x, sx.den ε) (by simp); rw [this, hx]
    have e2 : ρ y = .int .i64 n := by have := hρ (y, .int .i64 (e.den ε)) (by simp [SV.den]); rw [this, he]
    obtain ⟨v, w', hr, ⟨g, c, cur, rfl, q1, q2, q3, q4, q5⟩, hs⟩ := run_appendMade (P := G.P) (ty := type) ht hkt hi hz hsize hzs hb1 w n h0 hn
    refine .inl ⟨.slice (some ⟨g, 0, none⟩) n c, w', .inl ?_, ⟨[.slice (some ⟨g, 0, none⟩) n c], ⟨⟨_, _, _, rfl⟩, trivial⟩, ?_, g, c, cur, rfl, q1, q2, q3, q4, q5⟩, hs⟩
    · simp [execOp, bare, resolve, invoke, builtin, e1, e2, hr]
    · simp only [SV.den]; exact (hj _).symm
  · rintro w l w' hw hl' ⟨g, c, cur, rfl, q1, q2, q3, q4, q5⟩ hs
    exact hk w g c cur w' hw q1 q2 q3 q4 q5 hs
end
/-- a slice of bytes that is read -/
def Src (w : World) (s : Value) (D : List Int) : Prop := Arr byteE w s D ∧ ∀ n c, s = .slice none n c → n = 0 ∧ c = 0
theorem Src.same {w w' : World} {s : Value} {D : List Int} (h : Src w s D) (hk : Same w w') : Src w' s D := ⟨h.1.same hk, h.2⟩
theorem _root_.Go.Sx.Given.src {w : World} {s : Value} {D : List Int} (h : Given byteE w s D) : Src w s D := ⟨h.1, h.2.1⟩
theorem c18 (x : Int) (w : World) : Gives Try.prog 18 [.int .i64 x] w (.int .i64 x) := gives mix t18 rfl rfl (ε := [.int .i64 x]) ⟨⟨_, rfl⟩, trivial⟩ (den_leaf rfl)
theorem c32 (n : Nat) (v : Int) (w : World) (hn : n ≤ 1000) : GivesR Try.prog 32 [.int .i64 n, .int .u8 v] w (fun r w' => Mine byteE 5 w' r (List.replicate n v) ∧ ∀ g, r.ownBlock = some g → w.heap.size ≤ g) := by
  refine givesR mix t32 rfl rfl (ε := [.int .i64 n, .int .u8 v]) ⟨⟨_, rfl⟩, ⟨_, rfl⟩, trivial⟩ ?_
  refine den_make (n := n) u26 i5 z5 rfl rfl (by rw [hb5]; omega) (by omega) (fun v => rfl) (fun w1 b w2 h1 hb hh s12 => den_norm (by simp only [List.cons_append, List.nil_append]; rfl) ?_)
  have z1 : w.heap.size ≤ w1.heap.size := h1.base.size
  refine den_for n (fun j w3 => Mine byteE 5 w3 (.slice (some ⟨b, 0, none⟩) n n) (List.replicate j v ++ List.replicate (n - j) 0)) ⟨rfl, fun w3 h3 => by simpa using (mine_made (E := byteE) (T := 5) (0 : Int) (.int .u8 0) rfl (by decide) s5 (by omega) hh).same (shown_same h3)⟩ ?_
  intro j w3 hj hI hk3 _
  refine den_norm (by simp only [List.cons_append, List.nil_append]; rfl) (den_splitLt (fun hlt => ?_) (fun hge => ?_))
  · have hlt' : j < n := by simpa [IE.den, nth, vint] using hlt
    have hx : (List.replicate j v ++ List.replicate (n - j) 0)[j]? = some 0 := by rw [List.getElem?_append_right (by simp), List.length_replicate, Nat.sub_self, List.getElem?_replicate_of_lt (by omega)]
    refine den_obs (E := byteE) (L := List.replicate j v ++ List.replicate (n - j) 0) (w0 := w3) j hI.arr (by decide) rfl (by simp; omega) ?_
    have e : (List.replicate j v ++ List.replicate (n - j) 0).length = n := by simp; omega
    refine den_storeM (E := byteE) (T := 5) (.slice (some ⟨b, 0, none⟩) n n) (List.replicate j v ++ List.replicate (n - j) 0) j 0 v (.int .u8 v) [.int .u8 v] (by kernel_rfl) rfl rfl rfl hx rfl rfl rfl (by intro u hu; simp at hu; subst hu; rfl) (by simp [byteE]) (by decide) rfl (fun w4 h4 => hI.same (shown_same h4)) (fun w4 h4 g hg => ?_) ⟨w3, hI⟩ (fun w4 w5 h4 hm5 hk5 => ?_)
    · cases hg
      exact ⟨fun hd => (by cases hd), fun hlt2 => by have : b < w.heap.size := hlt2; omega, fun hin => by simp [BlkIn, nth, blkOf, vaddr] at hin, fun hx => (by cases hx)⟩
    refine den_ob64 ⟨by simp only [IE.den, nth, vint]; omega, by simp only [IE.den, nth, vint]; omega⟩ (den_next rfl hlt' fun w6 h6 => ?_)
    have e2 : (List.replicate j v ++ List.replicate (n - j) 0).set j v = List.replicate (j + 1) v ++ List.replicate (n - (j + 1)) 0 := by
      rw [List.set_append_right _ _ (by simp), List.length_replicate, Nat.sub_self, show n - j = (n - (j + 1)) + 1 by omega, List.replicate_succ, List.set_cons_zero, List.replicate_succ']
      simp
    rw [← e2]
    exact hm5.same (shown_same h6)
  · have hge' : n ≤ j := by have : (n : Int) ≤ (j : Int) := hge; omega
    have e : j = n := by omega
    subst e
    refine den_leaf' fun w4 h4 => (if_neg (by decide)).mpr ⟨_, rfl, ⟨by have := hI.same (shown_same h4); simp only [Nat.sub_self, List.replicate_zero, List.append_nil] at this; exact this, fun g hg => by have e : b = g := Option.some.inj hg; omega⟩, h4.base⟩
theorem c30 (s s' : Value) (D D' : List Int) (w : World) (h : Src w s D) (h' : Src w s' D') : Gives Try.prog 30 [s, s'] w (.bool (strEq D D')) := by
  obtain ⟨a, c, rfl⟩ := h.1.slice
  obtain ⟨a', c', rfl⟩ := h'.1.slice
  refine gives mix t30 rfl rfl (ε := [.slice a D.length c, .slice a' D'.length c']) ⟨⟨_, _, _, rfl⟩, ⟨_, _, _, rfl⟩, trivial⟩ (den_start0 fun w1 h1 => ?_)
  refine den_str D _ u26 u5 u9 rfl (h.same (shown_same h1)).1 (fun ad had _ hin => by simp [BlkIn, nth, blkOf, vaddr] at hin) (fun v => rfl) (den_norm (by simp only [List.cons_append, List.nil_append]; rfl) (den_start0 fun w2 h2 => ?_))
  refine den_str D' _ u26 u5 u9 rfl ((h'.same (shown_same h1)).same (shown_same h2)).1 (fun ad had _ hin => by simp [BlkIn, nth, blkOf, vaddr] at hin) (fun v => rfl) (den_norm (by simp only [List.cons_append, List.nil_append]; rfl) (den_start0 fun w3 h3 => ?_))
  exact den_strEq D D' rfl rfl (fun v => rfl) (den_norm (by simp only [List.cons_append, List.nil_append]; rfl) (den_leaf rfl))
theorem c35 (s : Value) (L : List Int) (w : World) (hs : Arr byteE w s L) (hm : L.length ≤ 60000000000) : GivesR Try.prog 35 [s] w (fun v w' => Mine byteE 5 w' v L ∧ (∀ g, v.ownBlock = some g → w.heap.size ≤ g) ∧ (vnil v = true → L = [])) :=
  clone_slice mix t35 u26 i5 z5 s5 rfl (by decide) by5 byte_one s L w hs hm
theorem c67 (n : Nat) (w : World) (h0 : 0 < n) (hn : n ≤ 60000) : GivesR Try.prog 67 [.slice none 0 0, .int .i64 n] w (fun v w' => Mine byteE 5 w' v ([] : List Int) ∧ ∀ g, v.ownBlock = some g → w.heap.size ≤ g) := by
  refine givesR mix t67 rfl rfl (ε := [.slice none 0 0, .int .i64 n]) ⟨⟨_, _, _, rfl⟩, ⟨_, rfl⟩, trivial⟩ (den_splitLt (fun h1 => ?_) (fun h1 => ?_))
  · have h1' : (n : Int) < 0 := h1
    omega
  have v1 : vlen (Value.slice none 0 0) = 0 := rfl
  have v2 : vcap (Value.slice none 0 0) = 0 := rfl
  refine den_ob64 ⟨by simp [IE.den, nth, vint, v1, v2], by simp [IE.den, nth, vint, v1, v2]⟩ (den_ob64 ⟨by simp [IE.den, nth, vint, v1, v2] <;> omega, by simp [IE.den, nth, vint, v1, v2] <;> omega⟩ (den_splitLt (fun h2 => ?_) (fun h2 => ?_)))
  · refine den_start0 fun w1 g1 => ?_
    refine den_slice none 0 0 none (some ((0 : Nat) : Int)) none 0 0 0 1 u26 st5 (fun ρ h => h.1) (fun _ _ => rfl) (fun ρ h => congrArg some h.2.1) (fun _ _ => rfl) (.inl ⟨rfl, rfl⟩) (.inr ⟨rfl, Nat.le_refl _⟩) (.inl ⟨rfl, rfl⟩) (fun _ => rfl) (den_norm (by simp only [List.cons_append, List.nil_append]; rfl) ?_)
    refine den_appendMade rfl u26 u3 i5 z5 rfl rfl hb5 n h0 (by omega) rfl (by simp [IE.den, nth, vint, v1, v2]) (fun v => rfl) (fun w2 g c cur w3 g2 q1 q2 q3 q4 q5 s23 => den_norm (by simp only [List.cons_append, List.nil_append]; rfl) (den_start0 fun w4 g4 => ?_))
    refine den_slice (some ⟨g, 0, none⟩) n c none (some ((0 : Nat) : Int)) none 0 0 c 1 u26 st5 (fun ρ h => h.1) (fun _ _ => rfl) (fun ρ h => congrArg some h.2.1) (fun _ _ => rfl) (.inl ⟨rfl, rfl⟩) (.inr ⟨rfl, Nat.zero_le _⟩) (.inl ⟨rfl, rfl⟩) (fun _ => rfl) (den_norm (by simp only [List.cons_append, List.nil_append]; rfl) ?_)
    have z1 : w.heap.size ≤ w1.heap.size := g1.base.size
    have z2 : w1.heap.size ≤ w2.heap.size := g2.kept.size
    have hM : Mine byteE 5 w3 (sliced (some ⟨g, 0, none⟩) 0 0 c 1) ([] : List Int) := by
      refine .inl ⟨rfl, .inr ⟨g, c, cur, ?_, Nat.zero_le _, q4, Nat.zero_le _, q2, by simpa [byteE] using q5, by simp⟩⟩
      exact sliced0 _ _ _ _
    exact den_leafR _ rfl fun w5 g5 => ⟨(hM.same (shown_same g4)).same (shown_same g5), fun g' hg' => by
      have e : (sliced (some ⟨g, 0, none⟩) 0 0 c 1).ownBlock = some g := by rw [sliced0]; rfl
      have hg2 : (sliced (some ⟨g, 0, none⟩) 0 0 c 1).ownBlock = some g' := hg'
      rw [e] at hg2
      have e3 := Option.some.inj hg2
      omega⟩
  · have h2' : (n : Int) - (0 - 0) ≤ 0 := by simpa [IE.den, nth, vint, v1, v2] using h2
    omega

def slE : Enc Value := ⟨fun v => [v], 1, fun _ => rfl⟩
/-- a join of two slices of bytes -/
theorem c52 (s sa sb : Value) (D1 D2 : List Int) (w : World) (hs : Arr slE w s [sa, sb]) (h1 : Src w sa D1) (h2 : Src w sb D2) (hm : 0 < D1.length + D2.length) (hm1 : D1.length ≤ 10000) (hm2 : D2.length ≤ 10000) :
    GivesR Try.prog 52 [s] w (fun v w' => Mine byteE 5 w' v (D1 ++ D2) ∧ ∀ g, v.ownBlock = some g → w.heap.size ≤ g) := by
  obtain ⟨a, c, rfl⟩ := hs.slice
  obtain ⟨a1, c1, rfl⟩ := h1.1.slice
  obtain ⟨a2, c2, rfl⟩ := h2.1.slice
  have two : ∀ j : Nat, j < 2 → j = 0 ∨ j = 1 := fun j hj => by omega
  let ln : Nat → Nat := fun j => if j = 0 then 0 else if j = 1 then D1.length else D1.length + D2.length
  have ln_le : ∀ j, ln j ≤ 20000 := fun j => by simp only [ln]; split; omega; split <;> omega
  refine givesR mix t52 rfl rfl (ε := [.slice a 2 c]) ⟨⟨_, _, _, rfl⟩, trivial⟩ ?_
  refine den_loop (fun ls w' => ∃ j : Nat, j ≤ 2 ∧ ls = [.int .i64 (ln j), .int .i64 (j : Int)]) (fun ls _ => 2 - (vint (nth ls 1)).toNat) (fun w1 g1 => ⟨0, by omega, rfl⟩) ?_
  rintro w1 l w2 g1 hfl ⟨j, hj, rfl⟩ hk2 hfa2
  have hs2 := hs.same hk2
  refine den_norm (by simp only [List.cons_append, List.nil_append]; rfl) (den_splitLt (fun hlt => ?_) (fun hge => ?_))
  · have hlt' : j < 2 := by have : (j : Int) < 2 := hlt; omega
    obtain ⟨x, hx, hf, hln⟩ : ∃ x : Value, [Value.slice a1 D1.length c1, Value.slice a2 D2.length c2][j]? = some x ∧ (∃ a n c, x = .slice a n c) ∧ ln j + vlen x = ln (j + 1) := by
      rcases two j hlt' with rfl | rfl
      · exact ⟨_, rfl, ⟨_, _, _, rfl⟩, by simp [ln, vlen]⟩
      · exact ⟨_, rfl, ⟨_, _, _, rfl⟩, by simp [ln, vlen]⟩
    refine den_idx2 (E := slE) (L := [Value.slice a1 D1.length c1, Value.slice a2 D2.length c2]) x j [x] hs2 rfl (by decide) rfl hx ⟨hf, trivial⟩ (cellk _ 0 _ rfl) (fun w3 g3 => hs2.same (shown_same g3)) (fun _ _ => by simp [BlkIn]) fun w3 g3 => den_norm (by simp only [List.cons_append, List.nil_append]; rfl) ?_
    have e1 := ln_le j
    have e2 := ln_le (j + 1)
    refine den_ob64 ⟨by simp only [IE.den, nth, vint]; omega, by simp only [IE.den, nth, vint]; omega⟩ (den_splitLt (fun h => ?_) (fun _ => ?_))
    · have h' : (ln j : Int) + (vlen x : Int) < 0 := h
      omega
    refine den_ob64 ⟨by simp only [IE.den, nth, vint]; omega, by simp only [IE.den, nth, vint]; omega⟩ (den_leaf_eq fun w4 g4 => ⟨⟨j + 1, by omega, ?_⟩, ?_⟩)
    · show [Value.int .i64 ((ln j : Int) + (vlen x : Int)), Value.int .i64 ((j : Int) + 1)] = _
      rw [show ((j : Int) + 1) = ((j + 1 : Nat) : Int) by simp, show (ln j : Int) + (vlen x : Int) = (ln (j + 1) : Int) by omega]
    · show 2 - ((j : Int) + 1).toNat < 2 - (j : Int).toNat
      omega
  · have hge' : 2 ≤ j := by have : (2 : Int) ≤ (j : Int) := hge; omega
    have ej : j = 2 := by omega
    subst ej
    have eln : ln 2 = D1.length + D2.length := by simp [ln]
    rw [eln]
    have h1' := h1.same hk2
    have h2' := h2.same hk2
    have zW : w.heap.size ≤ w2.heap.size := hk2.size
    refine den_callR (fun w1 l w2 => ∃ v, l = [v] ∧ Mine byteE 5 w2 v ([] : List Int) ∧ ∀ g, v.ownBlock = some g → w1.heap.size ≤ g) (fun w4 h4 => ?_) (fun w4 l w5 h4 hfl hR k45 => ?_)
    · refine (c67 (D1.length + D2.length) w4 hm (by omega)).mono fun v w' ⟨q1, q2⟩ => ?_
      obtain ⟨va, vc, hv⟩ := q1.slice
      exact ⟨[v], ⟨⟨_, _, _, hv⟩, trivial⟩, rfl, v, rfl, q1, q2⟩
    obtain ⟨v, rfl, hM, hlo⟩ := hR
    have z4 : w2.heap.size ≤ w4.heap.size := h4.kept.size
    let acc : Nat → List Int := fun j => if j = 0 then [] else if j = 1 then D1 else D1 ++ D2
    have hs5 := (hs2.same (shown_same h4)).same k45
    have h15 := (h1'.same (shown_same h4)).same k45
    have h25 := (h2'.same (shown_same h4)).same k45
    refine den_norm (by simp only [List.cons_append, List.nil_append]; rfl) ?_
    refine den_loop (fun ls w' => ∃ (j : Nat) (out : Value), j ≤ 2 ∧ ls = [out, .int .i64 (j : Int)] ∧ Mine byteE 5 w' out (acc j) ∧ ∀ g, out.ownBlock = some g → w.heap.size ≤ g) (fun ls _ => 2 - (vint (nth ls 1)).toNat) (fun w6 g6 => ⟨0, v, by omega, rfl, hM.same (shown_same g6), fun g hg => by have := hlo g hg; omega⟩) ?_
    rintro w6 l w7 g6 hfl ⟨j, out, hj, rfl, hO, hOb⟩ hk7 hfa7
    have hs7 := hs.same hk7
    have h17 := h1.same hk7
    have h27 := h2.same hk7
    obtain ⟨oa, oc, e0⟩ := hO.slice
    subst e0
    refine den_norm (by simp only [List.cons_append, List.nil_append]; rfl) (den_splitLt (fun hlt => ?_) (fun hge => ?_))
    · have hlt' : j < 2 := by have : (j : Int) < 2 := hlt; omega
      obtain ⟨x, D, hx, hf, hD, hacc, hl⟩ : ∃ (x : Value) (D : List Int), [Value.slice a1 D1.length c1, Value.slice a2 D2.length c2][j]? = some x ∧ (∃ a n c, x = .slice a n c) ∧ Src w7 x D ∧ acc j ++ D = acc (j + 1) ∧ (acc j).length + D.length ≤ 20000 := by
        rcases two j hlt' with rfl | rfl
        · exact ⟨_, D1, rfl, ⟨_, _, _, rfl⟩, h17, by simp [acc], by simp [acc]; omega⟩
        · exact ⟨_, D2, rfl, ⟨_, _, _, rfl⟩, h27, by simp [acc], by simp [acc]; omega⟩
      refine den_idx2 (E := slE) (L := [Value.slice a1 D1.length c1, Value.slice a2 D2.length c2]) x j [x] hs7 rfl (by decide) rfl hx ⟨hf, trivial⟩ (cellk _ 0 _ rfl) (fun w3 g3 => hs7.same (shown_same g3)) (fun _ _ => by simp [BlkIn]) fun w8 g8 => den_norm (by simp only [List.cons_append, List.nil_append]; rfl) ?_
      have hO8 := hO.same (shown_same g8)
      have hD8 := hD.same (shown_same g8)
      refine den_appendL (E := byteE) (T := 5) rfl u26 i5 z5 s5 rfl (by decide) by5 byte_one (.slice oa (acc j).length oc) x (acc j) D rfl rfl (fun n c e => hD8.2 n c e) (by omega) (fun g hg _ => .inl (hOb g hg)) (by simp) (fun w9 g9 => ⟨hO8.same (shown_same g9), (hD8.same (shown_same g9)).1⟩) (fun g _ _ hin => by simp [BlkIn] at hin) (fun hd => by cases hd) (fun _ => rfl) (fun w9 s' w10 g9 hM' hk' hfr _ => den_norm (by simp only [List.cons_append, List.nil_append]; rfl) ?_)
      have z7 : w.heap.size ≤ w7.heap.size := hk7.size
      have z8 : w7.heap.size ≤ w8.heap.size := g8.kept.size
      have z9 : w8.heap.size ≤ w9.heap.size := g9.kept.size
      refine den_ob64 ⟨by simp only [IE.den, nth, vint]; omega, by simp only [IE.den, nth, vint]; omega⟩ (den_leaf_eq fun w11 g11 => ⟨⟨j + 1, s', by omega, ?_, ?_, ?_⟩, ?_⟩)
      · show [s', Value.int .i64 ((j : Int) + 1)] = _
        rw [show ((j : Int) + 1) = ((j + 1 : Nat) : Int) by simp]
      · rw [← hacc]; exact hM'.same (shown_same g11)
      · intro g hg
        rcases hfr with ⟨e, _⟩ | ⟨b', e, hb', _⟩
        · rw [e] at hg; exact hOb g hg
        · rw [e] at hg; cases hg; omega
      · show 2 - ((j : Int) + 1).toNat < 2 - (j : Int).toNat
        omega
    · have hge' : 2 ≤ j := by have : (2 : Int) ≤ (j : Int) := hge; omega
      have ej : j = 2 := by omega
      subst ej
      refine den_leaf' fun w8 g8 => (if_neg (by decide)).mpr ((if_neg (by decide)).mpr ⟨_, rfl, ⟨?_, hOb⟩, g8.base⟩)
      have e : acc 2 = D1 ++ D2 := by simp [acc]
      rw [← e]
      exact hO.same (shown_same g8)
end Go.Proofs.Ytppbapnibpeolaa
