/- A flash device: the functions that carry out an operation. No conditions beyond those that each theorem names. -/
import Derived.Test.YtppbapnibpeolaaD
import Derived.Test.YtppbapnibpeolaaTC
set_option maxRecDepth 100000
set_option maxHeartbeats 2000000
set_option linter.unusedVariables false
set_option linter.unusedSimpArgs false
namespace Go.Proofs.Ytppbapnibpeolaa
open Go.Sx

abbrev ptA (b o : Nat) : Value := .pointer (some ⟨b, o, none⟩)
abbrev slc0 (g n c : Nat) : Value := .slice (some ⟨g, 0, none⟩) n c
/-- the pages of a block are set to a state -/
theorem c58 (g j c np : Nat) (Lb : List Bv) (v : Bv) (st : Int) (w : World) (hM : Mine blE 81 w (slc0 g Lb.length c) Lb) (hv : Lb[j]? = some v) (hp : np ≤ 600) (hf : ∃ a n c, v.s = .slice a n c) :
    Runs Try.prog 58 [ptA g (j * 3), .int .i64 np, .int .i64 st] w (fun y => y = g) (fun r w' => r = .tuple #[] ∧ ∃ gp, w.heap.size ≤ gp ∧ Mine blE 81 w' (slc0 g Lb.length c) (Lb.set j ⟨slc0 gp np np, if st = 1 then 0 else np, v.er⟩) ∧ Mine pgE 78 w' (slc0 gp np np) (List.replicate np ⟨.slice none 0 0, st⟩)) := by
  have hj : j < Lb.length := (List.getElem?_eq_some_iff.1 hv).1
  have lg : g < w.heap.size := hM.lt rfl
  refine runs mix t58 rfl rfl (ε := [ptA g (j * 3), .int .i64 np, .int .i64 st]) ⟨⟨_, rfl⟩, ⟨_, rfl⟩, ⟨_, rfl⟩, trivial⟩ trivial (by simp [keys]) (by simp [keys]) (by simp [keys]) ?_
  refine den_make (n := np) u79 i78 z78 rfl rfl (by have := by78; have := Nat.mul_le_mul_right np this; omega) (by omega) (fun v => rfl) (fun w1 gp w2 h1 hb hh s12 => den_norm (by simp only [List.cons_append, List.nil_append]; rfl) ?_)
  have z1 : w.heap.size ≤ w1.heap.size := h1.base.size
  have hM2 := (hM.same (shown_same h1)).same s12
  have hP2 : Mine pgE 78 w2 (slc0 gp np np) (List.replicate np ⟨.slice none 0 0, 0⟩) := mine_made (E := pgE) (T := 78) ⟨.slice none 0 0, 0⟩ _ rfl (by decide) s78 (by omega) hh
  refine den_notnilP (i := 0) rfl ?_
  refine den_storeE (E := blE) (T := 81) (off2 := 0) g c Lb j v ⟨slc0 gp np np, v.nx, v.er⟩ (slc0 gp np np) [slc0 gp np np] (by kernel_rfl) rfl hv rfl rfl rfl (by intro u hu; simp at hu; subst hu; rfl) (by simp [blE, pgE]) (by decide) rfl (fun w3 h3 => hM2.same (shown_same h3)) (fun w3 h3 => ⟨fun hd => (by cases hd), fun _ => rfl, fun hin => by simp [BlkIn, nth, blkOf, vaddr] at hin, fun hx => (by cases hx)⟩) (fun w3 w4 h3 hM4 k34 => ?_)
  have hP4 := (hP2.same (shown_same h3)).kept k34 fun y hy e => by have e2 : gp = y := Option.some.inj hy; omega
  have rd : ∀ {w : World} {l : List Bv} {x : Bv}, Mine blE 81 w (slc0 g Lb.length c) l → l[j]? = some x → ∀ (m : Nat) u, (blE.enc x)[m]? = some u → w.cell? ⟨g, j * 3 + m, none⟩ = some u := fun hm hx m u hu => hm.cellAt hx (by decide) hu
  have gs : ∀ (x : Bv), (Lb.set j x)[j]? = some x := fun x => by rw [List.getElem?_set_self hj]
  have z2 : w1.heap.size ≤ w2.heap.size := s12.size
  have z3 : w2.heap.size ≤ w3.heap.size := h3.kept.size
  have z4 : w3.heap.size ≤ w4.heap.size := k34.size
  refine den_ldq (i := 0) (off := 0) g (j * 3) [slc0 gp np np] ⟨⟨_, _, _, rfl⟩, trivial⟩ rfl (fun w5 h5 m u hu => ?_) (by simp [BlkIn]) fun w5 h5 => den_norm (by simp only [List.cons_append, List.nil_append]; rfl) ?_
  · have := rd (hM4.same (shown_same h5)) (gs _) m u (cell0 _ _ rfl m u hu |>.trans rfl |> fun h => by simpa using h)
    simpa using this
  have hM5 := hM4.same (shown_same h5)
  have hP5 := hP4.same (shown_same h5)
  have z5 : w4.heap.size ≤ w5.heap.size := h5.kept.size
  refine den_for np (fun k w6 => Mine blE 81 w6 (slc0 g Lb.length c) (Lb.set j ⟨slc0 gp np np, v.nx, v.er⟩) ∧ Mine pgE 78 w6 (slc0 gp np np) (List.replicate k ⟨.slice none 0 0, st⟩ ++ List.replicate (np - k) (⟨.slice none 0 0, 0⟩ : Pv))) ⟨rfl, fun w6 h6 => ⟨hM5.same (shown_same h6), by simpa using hP5.same (shown_same h6)⟩⟩ ?_
  rintro k w6 hk ⟨hM6, hP6⟩ kk6 _
  refine den_norm (by simp only [List.cons_append, List.nil_append]; rfl) (den_splitLt (fun hlt => ?_) (fun hge => ?_))
  · have hlt' : k < np := by have : (k : Int) < (np : Int) := hlt; omega
    refine den_ldq (i := 0) (off := 0) g (j * 3) [slc0 gp np np] ⟨⟨_, _, _, rfl⟩, trivial⟩ rfl (fun w5 h5 m u hu => ?_) (by simp [BlkIn]) fun w7 h7 => den_norm (by simp only [List.cons_append, List.nil_append]; rfl) ?_
    · have := rd (hM6.same (shown_same h5)) (gs _) m u (cell0 _ _ rfl m u hu |>.trans rfl |> fun h => by simpa using h)
      simpa using this
    have hM7 := hM6.same (shown_same h7)
    have hP7 := hP6.same (shown_same h7)
    have hx : (List.replicate k (⟨.slice none 0 0, st⟩ : Pv) ++ List.replicate (np - k) (⟨.slice none 0 0, 0⟩ : Pv))[k]? = some ⟨.slice none 0 0, 0⟩ := by rw [List.getElem?_append_right (by simp), List.length_replicate, Nat.sub_self, List.getElem?_replicate_of_lt (by omega)]
    refine den_obs (E := pgE) (L := List.replicate k (⟨.slice none 0 0, st⟩ : Pv) ++ List.replicate (np - k) (⟨.slice none 0 0, 0⟩ : Pv)) (w0 := w7) k hP7.arr (by decide) rfl (by simp; omega) ?_
    refine den_storeM (E := pgE) (T := 78) (slc0 gp np np) (List.replicate k (⟨.slice none 0 0, st⟩ : Pv) ++ List.replicate (np - k) (⟨.slice none 0 0, 0⟩ : Pv)) k ⟨.slice none 0 0, 0⟩ ⟨.slice none 0 0, st⟩ (.int .i64 st) [.int .i64 st] (by kernel_rfl) rfl rfl rfl hx rfl rfl rfl (by intro u hu; simp at hu; subst hu; rfl) (by simp [blE, pgE]) (by decide) rfl (fun w8 h8 => hP7.same (shown_same h8)) (fun w8 h8 y hy => ?_) ⟨w7, hP7⟩ (fun w8 w9 h8 hP9 k89 => ?_)
    · have e : gp = y := Option.some.inj hy
      exact ⟨fun hd => (by cases hd), fun hl => by have : y < w.heap.size := hl; omega, fun hin => by simp [BlkIn, nth, blkOf, vaddr] at hin, fun hx => (by cases hx)⟩
    have hM9 := (hM7.same (shown_same h8)).kept k89 fun y hy e => by have e2 : g = y := Option.some.inj hy; have e3 : gp = y := Option.some.inj e; omega
    refine den_ob64 ⟨by simp only [IE.den, nth, vint]; omega, by simp only [IE.den, nth, vint]; omega⟩ (den_next rfl hlt' fun w10 h10 => ⟨hM9.same (shown_same h10), ?_⟩)
    have e2 : (List.replicate k (⟨.slice none 0 0, st⟩ : Pv) ++ List.replicate (np - k) (⟨.slice none 0 0, 0⟩ : Pv)).set k ⟨.slice none 0 0, st⟩ = List.replicate (k + 1) ⟨.slice none 0 0, st⟩ ++ List.replicate (np - (k + 1)) ⟨.slice none 0 0, 0⟩ := by
      rw [List.set_append_right _ _ (by simp), List.length_replicate, Nat.sub_self, show np - k = (np - (k + 1)) + 1 by omega, List.replicate_succ, List.set_cons_zero, List.replicate_succ']
      simp
    rw [← e2]
    exact hP9.same (shown_same h10)
  have ek : k = np := by have : (np : Int) ≤ (k : Int) := hge; omega
  subst ek
  rw [Nat.sub_self, List.replicate_zero, List.append_nil] at hP6
  refine den_storeE (E := blE) (T := 81) (off2 := 1) g c (Lb.set j ⟨slc0 gp k k, v.nx, v.er⟩) j ⟨slc0 gp k k, v.nx, v.er⟩ ⟨slc0 gp k k, 0, v.er⟩ (.int .i64 0) [.int .i64 0] (by kernel_rfl) rfl (gs _) rfl rfl rfl (by intro u hu; simp at hu; subst hu; rfl) (by simp [blE, pgE]) (by decide) rfl (fun w3 h3 => by rw [List.length_set]; exact hM6.same (shown_same h3)) (fun w3 h3 => ⟨fun hd => (by cases hd), fun _ => rfl, fun hin => by simp [BlkIn, nth, blkOf, vaddr] at hin, fun hx => (by cases hx)⟩) (fun w7 w8 h7 hM8 k78 => ?_)
  rw [List.length_set, List.set_set] at hM8
  have hP8 := (hP6.same (shown_same h7)).kept k78 fun y hy e => by have e2 : gp = y := Option.some.inj hy; omega
  refine den_splitNot (fun hne => ?_) (fun he => ?_)
  · have hne' : st ≠ 1 := by simpa [BE.den, IE.den, nth, vint] using hne
    refine den_storeE (E := blE) (T := 81) (off2 := 1) g c (Lb.set j ⟨slc0 gp k k, 0, v.er⟩) j ⟨slc0 gp k k, 0, v.er⟩ ⟨slc0 gp k k, k, v.er⟩ (.int .i64 k) [.int .i64 k] (by kernel_rfl) rfl (gs _) rfl rfl rfl (by intro u hu; simp at hu; subst hu; rfl) (by simp [blE, pgE]) (by decide) rfl (fun w3 h3 => by rw [List.length_set]; exact hM8.same (shown_same h3)) (fun w3 h3 => ⟨fun hd => (by cases hd), fun _ => rfl, fun hin => by simp [BlkIn, nth, blkOf, vaddr] at hin, fun hx => (by cases hx)⟩) (fun w9 w10 h9 hM10 k9 => ?_)
    rw [List.length_set, List.set_set] at hM10
    have hP10 := (hP8.same (shown_same h9)).kept k9 fun y hy e => by have e2 : gp = y := Option.some.inj hy; omega
    refine den_leaf' fun w11 h11 => (if_neg (by decide)).mpr ⟨_, rfl, ⟨rfl, gp, by omega, ?_, hP10.same (shown_same h11)⟩, h11.base⟩
    rw [if_neg hne']
    exact hM10.same (shown_same h11)
  · have he' : st = 1 := by simpa [BE.den, IE.den, nth, vint] using he
    refine den_leaf' fun w11 h11 => (if_neg (by decide)).mpr ⟨_, rfl, ⟨rfl, gp, by omega, ?_, hP8.same (shown_same h11)⟩, h11.base⟩
    rw [if_pos he']
    exact hM8.same (shown_same h11)
end Go.Proofs.Ytppbapnibpeolaa
