/- What the functions that read an order return. No conditions beyond those that each theorem names. -/
import Derived.Test.YtfjimghpjopgoaaA
import Derived.Test.YtfjimghpjopgoaaSxY
set_option maxRecDepth 100000
set_option linter.unusedVariables false
set_option linter.unusedSimpArgs false
namespace Go.Proofs.Ytfjimghpjopgoaa
open Go.Sx

/-- the pointer leads to an order that holds these commands -/
structure OrdR (w : World) (o : Value) (L : List Cmd) : Prop where
  ex : ∃ s, PtsTo w o [s] ∧ Arr cmdE w s L ∧ L.length ≤ vcap s
theorem OrdR.same {w w' : World} {o : Value} {L : List Cmd} (h : OrdR w o L) (hk : Same w w') : OrdR w' o L := by
  obtain ⟨s, h1, h2, h3⟩ := h.ex
  exact ⟨s, h1.same hk, h2.same hk, h3⟩
theorem fit4 (a b c : Int) (d : Bool) : Fits [Base.int .i64, Base.int .i64, Base.int .i64, Base.bool] [.int .i64 a, .int .i64 b, .int .i64 c, .bool d] := ⟨⟨_, rfl⟩, ⟨_, rfl⟩, ⟨_, rfl⟩, ⟨_, rfl⟩, trivial⟩

theorem c50 (j : Int) (x c : Cmd) (q5 q6 o s : Value) (L : List Cmd) (i : Nat) (w : World) (h5 : PtsTo w q5 [o]) (ho : PtsTo w o [s]) (h6 : PtsTo w q6 [.int .i64 i]) (hs : Arr cmdE w s L) (hi : L[i]? = some c) :
    Gives Try.prog 50 [.int .i64 j, cmdV x, q5, q6] w (.bool (conf x c)) := by
  have h := gives mix t50 rfl rfl (ε := [.int .i64 j, .int .i64 x.id, .int .i64 x.lba, .int .i64 x.n, .bool x.wr, q5, q6]) (w := w) (r := .bool (conf x c)) ⟨⟨_, rfl⟩, ⟨_, rfl⟩, ⟨_, rfl⟩, ⟨_, rfl⟩, ⟨_, rfl⟩, h5.fits, h6.fits, trivial⟩ (den_blk fun b hb _ _ => ?_)
  · simp only [denL, SV.den, IE.den, BE.den, nth, vint, vbool, h5.self, h6.self] at h
    exact h
  · refine den_norm (by simp only [List.cons_append, List.nil_append]; rfl) (den_start1 fun w1 h1 => ?_)
    have no : ∀ g, g < w.heap.size → ¬ BlkIn [.int .i64 j, .int .i64 x.id, .int .i64 x.lba, .int .i64 x.n, .bool x.wr, q5, q6, .pointer (some ⟨b, 0, none⟩)] [7] g := by
      intro g hg; simp [BlkIn, nth, blkOf, vaddr] <;> omega
    refine den_ldpD [o] [o] ⟨ho.fits, trivial⟩ (whole _) (h5.same h1.base) (fun g hg => no g (h5.lt (by simp) g hg)) (den_norm (by simp only [List.cons_append, List.nil_append]; rfl) ?_)
    refine den_notnil (i := 8) (ho.same h1.base) (den_ldpD [s] [s] ⟨by obtain ⟨a, c, e⟩ := hs.slice; exact ⟨_, _, _, e⟩, trivial⟩ (whole _) (ho.same h1.base) (fun g hg => no g (ho.lt (by simp) g hg)) (den_norm (by simp only [List.cons_append, List.nil_append]; rfl) ?_))
    refine den_ldpD [.int .i64 i] [.int .i64 i] ⟨⟨_, rfl⟩, trivial⟩ (whole _) (h6.same h1.base) (fun g hg => no g (h6.lt (by simp) g hg)) (den_norm (by simp only [List.cons_append, List.nil_append]; rfl) ?_)
    refine den_idxD (E := cmdE) (L := L) c i (cmdE.enc c) rfl (by decide) rfl hi (fit4 _ _ _ _) (whole _) (hs.same h1.base) (fun ad had => no _ (hs.lt hi (by decide) ad had)) ?_
    refine den_norm (by simp only [List.cons_append, List.nil_append, cmdE]; rfl) ?_
    exact den_call_bool (fun w _ => c51 x c w) rfl (fun _ _ _ _ => den_leaf rfl)

theorem underlying38 : Try.prog.underlying 38 = some (.slice 82) := by kernel_rfl
theorem size82 : sizeT Try.prog 82 = some 4 := by kernel_rfl
theorem go49 : goFunc Try.prog 49 = true := by kernel_rfl
theorem go50 : goFunc Try.prog 50 = true := by kernel_rfl
theorem go40 : goFunc Try.prog 40 = true := by kernel_rfl
theorem rdy_idx (L : List Cmd) (i : Nat) (c : Cmd) (hi : L[i]? = some c) : decide (idxFrom (fun _ x => conf x c) 0 (L.take i) < 0) = rdy L i := by
  unfold rdy
  rw [hi, Bool.eq_iff_iff, decide_eq_true_eq, idxFrom_neg]
  simp only [List.all_eq_true, Bool.not_eq_true']
  constructor
  · intro h x hx
    obtain ⟨j, hj⟩ := List.getElem?_of_mem hx
    exact h j x hj
  · intro h j x hj
    exact h x (List.mem_of_getElem? hj)

theorem c36 (o : Value) (L : List Cmd) (i : Nat) (w : World) (hO : OrdR w o L) (hi : i < L.length) (hm : L.length < 4611686018427387904) : Gives Try.prog 36 [o, .int .i64 i] w (.bool (rdy L i)) := by
  obtain ⟨s, ho, hs, hcap⟩ := hO.ex
  obtain ⟨a, cp, rfl⟩ := hs.slice
  simp only [vcap] at hcap
  obtain ⟨c, hc⟩ : ∃ c, L[i]? = some c := ⟨L[i], by simp [hi]⟩
  refine gives mix t36 rfl rfl (ε := [o, .int .i64 i]) ⟨ho.fits, ⟨_, rfl⟩, trivial⟩ (den_blk fun b hb _ _ => den_blk fun b2 hb2 _ _ => ?_)
  refine den_norm (by simp only [List.cons_append, List.nil_append]; rfl) (den_start1 fun w1 h1 => ?_)
  have no : ∀ g, g < w.heap.size → ¬ BlkIn [o, .int .i64 i, .pointer (some ⟨b, 0, none⟩), .pointer (some ⟨b2, 0, none⟩)] [3, 2] g := by
    intro g hg; simp [BlkIn, nth, blkOf, vaddr] <;> omega
  refine den_notnil (i := 0) (ho.same h1.base) (den_ldpD [.slice a L.length cp] [.slice a L.length cp] ⟨⟨_, _, _, rfl⟩, trivial⟩ (whole _) (ho.same h1.base) (fun g hg => no g (ho.lt (by simp) g hg)) (den_norm (by simp only [List.cons_append, List.nil_append]; rfl) ?_))
  refine den_slice a L.length cp none (some i) (some i) 0 i i 4 underlying38 size82 (fun ρ h => h.1) (fun _ _ => rfl) (fun ρ h => congrArg some h.2.1) (fun ρ h => congrArg some h.2.2.1) (.inr ⟨rfl, by omega⟩) (.inr ⟨rfl, Nat.le_refl _⟩) (.inl ⟨rfl, rfl⟩) (fun _ => rfl) (den_norm (by simp only [List.cons_append, List.nil_append]; rfl) ?_)
  refine den_call_int (x := idxFrom (fun _ x => conf x c) 0 (L.take i)) (fun w2 h2 => ?_) rfl (fun _ _ _ _ => den_leaf ?_)
  · refine c39 _ _ (L.take i) (fun _ x => conf x c) 50 [.pointer (some ⟨b, 0, none⟩), .pointer (some ⟨b2, 0, none⟩)] w2 (by simp; omega) ?_ rfl go50 (fun j x w3 hx h3 => ?_)
    · have := (hs.same h2.base).sub (l := 0) (k := i) (m := i) (Nat.zero_le _) (by omega) (Nat.le_refl _)
      rw [List.drop_zero] at this
      exact this
    · exact c50 j x c _ _ o _ L i w3 (h2.facts.2.1.pts.same h3) ((ho.same h2.base).same h3) (h2.facts.1.pts.same h3) ((hs.same h2.base).same h3) hc
  · simp only [denL, SV.den, BE.den, IE.den, nth, vint, List.cons_append, List.nil_append, ltB_eq]
    rw [rdy_idx L i c hc]

theorem c34 (o : Value) (L : List Cmd) (id : Int) (w : World) (hO : OrdR w o L) (hm : L.length < 4611686018427387904) : Gives Try.prog 34 [o, .int .i64 id] w (.int .i64 (fnd L id)) := by
  obtain ⟨s, ho, hs, hcap⟩ := hO.ex
  obtain ⟨a, cp, rfl⟩ := hs.slice
  refine gives mix t34 rfl rfl (ε := [o, .int .i64 id]) ⟨ho.fits, ⟨_, rfl⟩, trivial⟩ (den_blk fun b hb _ _ => ?_)
  refine den_norm (by simp only [List.cons_append, List.nil_append]; rfl) (den_notnil (i := 0) ho ?_)
  refine den_ldp [.slice a L.length cp] [.slice a L.length cp] ⟨⟨_, _, _, rfl⟩, trivial⟩ (whole _) (fun w1 h1 => ho.same h1.base) (fun g hg => by have := ho.lt (by simp) g hg; simp [BlkIn, nth, blkOf, vaddr] <;> omega) (fun w1 h1 => den_norm (by simp only [List.cons_append, List.nil_append]; rfl) ?_)
  refine den_call_int (x := fnd L id) (fun w2 h2 => ?_) rfl (fun _ _ _ _ => den_leaf rfl)
  refine c39 _ _ L (fun _ x => decide (x.id = id)) 49 [.pointer (some ⟨b, 0, none⟩)] w2 hm (hs.same h2.base) rfl go49 (fun j x w3 hx h3 => ?_)
  exact c49 j x _ id w3 (h2.facts.1.pts.same h3)

theorem fnd_or (L : List Cmd) (id : Int) : fnd L id = -1 ∨ ∃ i c, fnd L id = (i : Nat) ∧ L[i]? = some c ∧ c.id = id := by
  rcases idxFrom_bounds (fun _ (x : Cmd) => decide (x.id = id)) L 0 with h | ⟨i, x, h1, h2, h3⟩
  · exact .inl h
  · exact .inr ⟨i, x, by unfold fnd; rw [h1]; simp, h2, of_decide_eq_true h3⟩
/-- at(id): the index and an error -/
def atE (L : List Cmd) (id : Int) : Int := if id < 0 then 2 else if 0 ≤ fnd L id then 0 else 9
def atI (L : List Cmd) (id : Int) : Int := if atE L id = 0 then fnd L id else 0
theorem c35 (o : Value) (L : List Cmd) (id : Int) (w : World) (hO : OrdR w o L) (hm : L.length < 4611686018427387904) : Gives Try.prog 35 [o, .int .i64 id] w (.tuple #[.int .i64 (atI L id), .int .i64 (atE L id)]) := by
  obtain ⟨s, ho, hs, hcap⟩ := hO.ex
  obtain ⟨b, rfl, hc⟩ := ho.at_
  refine gives mix t35 rfl rfl (ε := [.pointer (some ⟨b, 0, none⟩), .int .i64 id]) ⟨⟨_, rfl⟩, ⟨_, rfl⟩, trivial⟩ ?_
  refine den_split_false (by simp [BE.den, nth, vnil]) (den_splitLt (fun h => den_leaf ?_) (fun h => ?_))
  · simp only [IE.den, nth, vint] at h
    simp only [denL, SV.den, IE.den, atI, atE, if_pos h]; rfl
  · simp only [IE.den, nth, vint] at h
    have h' : ¬ id < 0 := by omega
    refine den_call_int (x := fnd L id) (fun w2 h2 => c34 _ L id w2 (hO.same h2.base) hm) rfl (fun _ _ _ _ => den_norm (by simp only [List.cons_append, List.nil_append]; rfl) (den_splitLe (fun h3 => den_leaf ?_) (fun h3 => den_leaf ?_)))
    · simp only [IE.den, nth, vint] at h3
      simp only [denL, SV.den, IE.den, atI, atE, if_neg h', if_pos h3]; rfl
    · simp only [IE.den, nth, vint] at h3
      have h3' : ¬ 0 ≤ fnd L id := by omega
      simp only [denL, SV.den, IE.den, atI, atE, if_neg h', if_neg h3']; rfl
theorem atI_lt {L : List Cmd} {id : Int} (h : atE L id = 0) : ∃ i : Nat, atI L id = i ∧ i < L.length := by
  have hI : atI L id = fnd L id := by unfold atI; rw [if_pos h]
  unfold atE at h
  split at h
  · cases h
  · split at h
    · rename_i h1 h2
      rcases fnd_or L id with e | ⟨i, c, e, hc, _⟩
      · omega
      · exact ⟨i, by rw [hI, e], (List.getElem?_eq_some_iff.1 hc).1⟩
    · cases h
/-- Ready(id) -/
def rdB (L : List Cmd) (id : Int) : Bool := decide (atE L id = 0) && rdy L (atI L id).toNat
theorem c22 (o : Value) (L : List Cmd) (id : Int) (w : World) (hO : OrdR w o L) (hm : L.length < 4611686018427387904) : Gives Try.prog 22 [o, .int .i64 id] w (.tuple #[.bool (rdB L id), .int .i64 (atE L id)]) := by
  obtain ⟨s, ho, hs, hcap⟩ := hO.ex
  obtain ⟨b, rfl, hc⟩ := ho.at_
  refine gives mix t22 rfl rfl (ε := [.pointer (some ⟨b, 0, none⟩), .int .i64 id]) ⟨⟨_, rfl⟩, ⟨_, rfl⟩, trivial⟩ ?_
  refine den_call [.int .i64 (atI L id), .int .i64 (atE L id)] ⟨⟨_, rfl⟩, ⟨_, rfl⟩, trivial⟩ rfl (fun w2 h2 => c35 _ L id w2 (hO.same h2.base) hm) (fun _ _ _ _ => den_norm (by simp only [List.cons_append, List.nil_append]; rfl) (den_splitEq (fun h3 => ?_) (fun h3 => den_leaf ?_)))
  · simp only [IE.den, nth, vint] at h3
    obtain ⟨i, hi, hil⟩ := atI_lt h3
    refine den_ob (by simp [BE.den, nth, vnil]) (den_call_bool (b := rdy L i) (fun w2 h2 => ?_) rfl (fun _ _ _ _ => den_leaf ?_))
    · have := c36 (.pointer (some ⟨b, 0, none⟩)) L i w2 (hO.same h2.base) hil hm
      rw [← hi] at this
      exact this
    · simp only [denL, SV.den, BE.den, IE.den, nth, vint, vbool, List.cons_append, List.nil_append, rdB, h3, hi]
      simp
  · simp only [IE.den, nth, vint] at h3
    simp only [denL, SV.den, BE.den, IE.den, nth, vint, vbool, rdB, decide_eq_false h3, Bool.false_and]
theorem c18 (o : Value) (L : List Cmd) (id no : Int) (is : Bool) (w : World) (hO : OrdR w o L) (hm : L.length < 4611686018427387904) : Gives Try.prog 18 [o, .int .i64 id, .bool is, .int .i64 no] w (.bool ((rdB L id == is) && decide (atE L id = no))) := by
  obtain ⟨s, ho, hs, hcap⟩ := hO.ex
  refine gives mix t18 rfl rfl (ε := [o, .int .i64 id, .bool is, .int .i64 no]) ⟨ho.fits, ⟨_, rfl⟩, ⟨_, rfl⟩, ⟨_, rfl⟩, trivial⟩ ?_
  refine den_call [.bool (rdB L id), .int .i64 (atE L id)] ⟨⟨_, rfl⟩, ⟨_, rfl⟩, trivial⟩ rfl (fun w2 h2 => c22 _ L id w2 (hO.same h2.base) hm) (fun _ _ _ _ => den_norm (by simp only [List.cons_append, List.nil_append]; rfl) (den_split (fun h3 => ?_) (fun h3 => den_leaf ?_)))
  · refine den_call_int (x := atE L id) (fun w2 h2 => c15 _ w2) rfl (fun _ _ _ _ => den_leaf ?_)
    simp_all [denL, SV.den, BE.den, IE.den, nth, vint, vbool]
  · simp_all [denL, SV.den, BE.den, IE.den, nth, vint, vbool]
theorem c17 (o : Value) (L : List Cmd) (w : World) (hO : OrdR w o L) : Gives Try.prog 17 [o] w (.int .i64 L.length) := by
  obtain ⟨s, ho, hs, hcap⟩ := hO.ex
  obtain ⟨a, cp, rfl⟩ := hs.slice
  obtain ⟨b, rfl, hc⟩ := ho.at_
  refine gives mix t17 rfl rfl (ε := [.pointer (some ⟨b, 0, none⟩)]) ⟨⟨_, rfl⟩, trivial⟩ ?_
  refine den_split_false (by simp [BE.den, nth, vnil]) ?_
  exact den_ldp [.slice a L.length cp] [.slice a L.length cp] ⟨⟨_, _, _, rfl⟩, trivial⟩ (whole _) (fun w1 h1 => ho.same h1.base) (fun g hg => by simp [BlkIn]) (fun w1 h1 => den_leaf rfl)
theorem c40 (o : Value) (L : List Cmd) (i : Nat) (x : Cmd) (q : Value) (w : World) (hq : PtsTo w q [o]) (hO : OrdR w o L) (hi : i < L.length) (hm : L.length < 4611686018427387904) : Gives Try.prog 40 [.int .i64 i, cmdV x, q] w (.bool (rdy L i)) := by
  obtain ⟨s, ho, hs, hcap⟩ := hO.ex
  have h := gives mix t40 rfl rfl (ε := [.int .i64 i, .int .i64 x.id, .int .i64 x.lba, .int .i64 x.n, .bool x.wr, q]) (w := w) (r := .bool (rdy L i)) ⟨⟨_, rfl⟩, ⟨_, rfl⟩, ⟨_, rfl⟩, ⟨_, rfl⟩, ⟨_, rfl⟩, hq.fits, trivial⟩ (den_blk fun b hb _ _ => ?_)
  · simp only [denL, SV.den, IE.den, BE.den, nth, vint, vbool, hq.self] at h
    exact h
  · refine den_norm (by simp only [List.cons_append, List.nil_append]; rfl) ?_
    refine den_ldp [o] [o] ⟨ho.fits, trivial⟩ (whole _) (fun w1 h1 => hq.same h1.base) (fun g hg => by have := hq.lt (by simp) g hg; simp [BlkIn, nth, blkOf, vaddr] <;> omega) (fun w1 h1 => den_norm (by simp only [List.cons_append, List.nil_append]; rfl) ?_)
    refine den_notnil (i := 7) (ho.same h1.base) (den_call_bool (b := rdy L i) (fun w2 h2 => ?_) rfl (fun _ _ _ _ => den_leaf rfl))
    have := c36 o L i w2 (hO.same h2.base) hi hm
    rw [← ho.self] at this
    exact this
/-- Next() -/
def nxE (L : List Cmd) : Int := if nx L < 0 then 9 else 0
def nxI (L : List Cmd) : Int := match L[(nx L).toNat]? with
  | some c => if nx L < 0 then 0 else c.id
  | none => 0
theorem c21 (o : Value) (L : List Cmd) (w : World) (hO : OrdR w o L) (hm : L.length < 4611686018427387904) : Gives Try.prog 21 [o] w (.tuple #[.int .i64 (nxI L), .int .i64 (nxE L)]) := by
  obtain ⟨s, ho, hs, hcap⟩ := hO.ex
  obtain ⟨a, cp, rfl⟩ := hs.slice
  obtain ⟨bo, rfl, hbo⟩ := ho.at_
  refine gives mix t21 rfl rfl (ε := [.pointer (some ⟨bo, 0, none⟩)]) ⟨⟨_, rfl⟩, trivial⟩ (den_blk fun b hb _ _ => ?_)
  refine den_norm (by simp only [List.cons_append, List.nil_append]; rfl) (den_split_false (by simp [BE.den, nth, vnil]) ?_)
  have hlt := ho.lt (by simp) bo rfl
  refine den_ldp [.slice a L.length cp] [.slice a L.length cp] ⟨⟨_, _, _, rfl⟩, trivial⟩ (whole _) (fun w1 h1 => ho.same h1.base) (fun g hg => by have := ho.lt (by simp) g hg; simp [BlkIn, nth, blkOf, vaddr] <;> omega) (fun w1 h1 => den_norm (by simp only [List.cons_append, List.nil_append]; rfl) ?_)
  refine den_call_int (x := nx L) (fun w2 h2 => ?_) rfl (fun w2 w3 h2 h3 => den_norm (by simp only [List.cons_append, List.nil_append]; rfl) ?_)
  · refine c39 _ _ L (fun i _ => rdy L i) 40 [.pointer (some ⟨b, 0, none⟩)] w2 hm (hs.same h2.base) rfl go40 (fun j x w3 hx h3 => ?_)
    exact c40 _ L j x _ w3 (h2.facts.1.pts.same h3) ((hO.same h2.base).same h3) (List.getElem?_eq_some_iff.1 hx).1 hm
  · refine den_splitLt (fun h4 => den_leaf ?_) (fun h4 => ?_)
    · simp only [IE.den, nth, vint] at h4
      simp only [denL, SV.den, IE.den, nxE, if_pos h4, nxI]
      cases L[(nx L).toNat]? <;> rfl
    · simp only [IE.den, nth, vint] at h4
      obtain ⟨i, c, e, hc⟩ : ∃ (i : Nat) (c : Cmd), nx L = i ∧ L[i]? = some c := by
        rcases idxFrom_bounds (fun i (_ : Cmd) => rdy L i) L 0 with h | ⟨i, x, h1, h2, _⟩
        · have : nx L = -1 := h
          omega
        · exact ⟨i, x, by unfold nx; rw [h1]; simp, h2⟩
      refine den_ldp [.slice a L.length cp] [.slice a L.length cp] ⟨⟨_, _, _, rfl⟩, trivial⟩ (whole _) (fun w1 h1 => ho.same h1.base) (fun g hg => by have := ho.lt (by simp) g hg; simp [BlkIn, nth, blkOf, vaddr] <;> omega) (fun w4 h4' => den_norm (by simp only [List.cons_append, List.nil_append]; rfl) ?_)
      refine den_idx (E := cmdE) (L := L) c i [.int .i64 c.id] rfl (by decide) e hc ⟨⟨_, rfl⟩, trivial⟩ (fun m v hv => by cases m with | zero => exact hv | succ m => simp at hv) (fun w5 h5 => ⟨hs.same h5.base, fun ad had => by have := hs.lt hc (by decide) ad had; simp [BlkIn, nth, blkOf, vaddr] <;> omega⟩) (fun w5 h5 => den_leaf ?_) ⟨w4, Kept.refl _ _, h4'.base, h4'.facts, fun i j hi hj hn => by simp [keys] at hi hj <;> omega⟩
      have hn : ¬ ((i : Nat) : Int) < 0 := by omega
      simp only [denL, SV.den, IE.den, nth, vint, List.cons_append, List.nil_append, nxE, nxI, e, Int.toNat_natCast, hc, if_neg hn]
end Go.Proofs.Ytfjimghpjopgoaa
