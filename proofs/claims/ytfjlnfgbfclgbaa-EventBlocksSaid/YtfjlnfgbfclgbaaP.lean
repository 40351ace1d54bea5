/- same and agrees, the comparisons of the law. No conditions beyond those that each theorem names. -/
import Derived.Test.YtfjlnfgbfclgbaaO
import Derived.Test.YtfjlnfgbfclgbaaTG
import Derived.Laws.StructEq
set_option maxRecDepth 100000
set_option maxHeartbeats 2000000
set_option linter.unusedVariables false
set_option linter.unusedSimpArgs false
namespace Go.Proofs.Ytfjlnfgbfclgbaa
open Go.Sx

theorem un49 : Try.prog.underlying 49 = some (.struct (Try.prog.fieldsOf 49)) := by kernel_rfl
theorem un37 : Try.prog.underlying 37 = some (.int .u16) := by kernel_rfl
theorem un24 : Try.prog.underlying 24 = some (.int .u32) := by kernel_rfl
theorem st49 : Try.prog.stoodInHeld 49 = false := by kernel_rfl
theorem gu49 : Try.prog.eqGuardType Try.prog.depth 49 = false := by kernel_rfl
theorem ag37 : isAggT Try.prog 37 = some false := by kernel_rfl
theorem ag24 : isAggT Try.prog 24 = some false := by kernel_rfl
theorem ag5 : isAggT Try.prog 5 = some false := by kernel_rfl
theorem fields49 : ∃ f g : Field, (Try.prog.fieldsOf 49).toList = [f, g] ∧ f.type = 37 ∧ g.type = 24 ∧ f.offset = 0 ∧ g.offset = 1 ∧ f.name ≠ "_" ∧ g.name ≠ "_" :=
  ⟨(Try.prog.fieldsOf 49).toList[0]!, (Try.prog.fieldsOf 49).toList[1]!, by kernel_rfl, by kernel_rfl, by kernel_rfl, by kernel_rfl, by kernel_rfl, by decide +kernel, by decide +kernel⟩
theorem flat49 (a b c d : Int) : (∀ f ∈ (Try.prog.fieldsOf 49).toList, FlatField Try.prog #[.int .u16 a, .int .u32 b] #[.int .u16 c, .int .u32 d] f) ∧
    ((Try.prog.fieldsOf 49).toList.all fun f => eqV (#[Value.int .u16 a, .int .u32 b][f.offset]?.getD undef) (#[Value.int .u16 c, .int .u32 d][f.offset]?.getD undef)) = decide ((a, b) = (c, d)) := by
  obtain ⟨f, g, hf, h1, h2, h3, h4, h5, h6⟩ := fields49
  rw [hf]
  constructor
  · intro x hx
    simp only [List.mem_cons, List.not_mem_nil, or_false] at hx
    rcases hx with rfl | rfl
    · exact ⟨h5, by rw [h1]; exact ag37, .inl ⟨.u16, a, c, by rw [h1]; exact un37, by rw [h3]; rfl, by rw [h3]; rfl⟩⟩
    · exact ⟨h6, by rw [h2]; exact ag24, .inl ⟨.u32, b, d, by rw [h2]; exact un24, by rw [h4]; rfl, by rw [h4]; rfl⟩⟩
  · simp [h3, h4, eqV, Bool.decide_and]
theorem un23 : Try.prog.underlying 23 = some (.struct (Try.prog.fieldsOf 23)) := by kernel_rfl
theorem sh23 : Try.prog.stoodInHeld 23 = false := by kernel_rfl
theorem gu23 : Try.prog.eqGuardType Try.prog.depth 23 = false := by kernel_rfl
theorem fields23 : ∃ f g h : Field, (Try.prog.fieldsOf 23).toList = [f, g, h] ∧ (f.type = 5 ∧ g.type = 5 ∧ h.type = 5) ∧ (f.offset = 0 ∧ g.offset = 1 ∧ h.offset = 2) ∧ f.name ≠ "_" ∧ g.name ≠ "_" ∧ h.name ≠ "_" :=
  ⟨(Try.prog.fieldsOf 23).toList[0]!, (Try.prog.fieldsOf 23).toList[1]!, (Try.prog.fieldsOf 23).toList[2]!, by kernel_rfl, ⟨by kernel_rfl, by kernel_rfl, by kernel_rfl⟩, ⟨by kernel_rfl, by kernel_rfl, by kernel_rfl⟩, by decide +kernel, by decide +kernel, by decide +kernel⟩
theorem flat23 (x y : Ntc) : (∀ f ∈ (Try.prog.fieldsOf 23).toList, FlatField Try.prog #[.int .u8 x.t, .int .u8 x.i, .int .u8 x.p] #[.int .u8 y.t, .int .u8 y.i, .int .u8 y.p] f) ∧
    ((Try.prog.fieldsOf 23).toList.all fun f => eqV (#[Value.int .u8 x.t, .int .u8 x.i, .int .u8 x.p][f.offset]?.getD undef) (#[Value.int .u8 y.t, .int .u8 y.i, .int .u8 y.p][f.offset]?.getD undef)) = (decide (x.t = y.t) && (decide (x.i = y.i) && decide (x.p = y.p))) := by
  obtain ⟨f, g, h, hf, ⟨h1, h2, h3⟩, ⟨h4, h5, h6⟩, h7, h8, h9⟩ := fields23
  rw [hf]
  constructor
  · intro z hz
    simp only [List.mem_cons, List.not_mem_nil, or_false] at hz
    rcases hz with rfl | rfl | rfl
    · exact ⟨h7, by rw [h1]; exact ag5, .inl ⟨.u8, _, _, by rw [h1]; exact u5, by rw [h4]; rfl, by rw [h4]; rfl⟩⟩
    · exact ⟨h8, by rw [h2]; exact ag5, .inl ⟨.u8, _, _, by rw [h2]; exact u5, by rw [h5]; rfl, by rw [h5]; rfl⟩⟩
    · exact ⟨h9, by rw [h3]; exact ag5, .inl ⟨.u8, _, _, by rw [h3]; exact u5, by rw [h6]; rfl, by rw [h6]; rfl⟩⟩
  · simp [h4, h5, h6, eqV]

/-- whether two lists of completions are equal -/
theorem c32 (s t : Value) (L M : List (Int × Int)) (w : World) (hs : Arr resE w s L) (ht : Arr resE w t M) (hm : L.length ≤ 60000000000) : Gives Try.prog 32 [s, t] w (.bool (decide (L = M))) := by
  obtain ⟨a, c, rfl⟩ := hs.slice
  obtain ⟨a2, c2, rfl⟩ := ht.slice
  refine gives mix t32 rfl rfl (ε := [.slice a L.length c, .slice a2 M.length c2]) ⟨⟨_, _, _, rfl⟩, ⟨_, _, _, rfl⟩, trivial⟩ (den_splitNot (fun h => den_leaf ?_) (fun h => ?_))
  · have h' : ¬ (L.length : Int) = M.length := by simpa [BE.den, IE.den, nth, vlen] using h
    have : L ≠ M := fun e => h' (by rw [e])
    simp [denL, SV.den, BE.den, this]
  have h' : L.length = M.length := by
    have : (L.length : Int) = M.length := by simpa [BE.den, IE.den, nth, vlen] using h
    omega
  refine den_for L.length (fun j w => ∀ i : Nat, i < j → L[i]? = M[i]?) ⟨rfl, fun w _ i hi => by omega⟩ ?_
  intro j w1 hj hI hk hfa
  refine den_norm (by simp only [List.cons_append, List.nil_append]; rfl) (den_splitLt (fun hlt => ?_) (fun hge => ?_))
  · have hlt' : j < L.length := by simpa [IE.den, nth, vint, vlen] using hlt
    have hlt2 : j < M.length := by omega
    have hx : L[j]? = some L[j] := by simp [hlt']
    have hy : M[j]? = some M[j] := by simp [hlt2]
    refine den_start1 fun w2 h2 => ?_
    refine den_idxD (E := resE) (L := L) L[j] j (resE.enc L[j]) rfl (by decide) rfl hx ⟨⟨_, rfl⟩, ⟨_, rfl⟩, trivial⟩ (whole _) (hs.same h2.base) (fun ad _ => by simp [BlkIn]) (den_norm (by simp only [List.cons_append, List.nil_append, resE]; rfl) ?_)
    refine den_idxD (E := resE) (L := M) M[j] j (resE.enc M[j]) rfl (by decide) rfl hy ⟨⟨_, rfl⟩, ⟨_, rfl⟩, trivial⟩ (whole _) (ht.same h2.base) (fun ad _ => by simp [BlkIn]) (den_norm (by simp only [List.cons_append, List.nil_append, resE]; rfl) ?_)
    refine den_pur [.bool !(decide (L[j] = M[j]))] ⟨⟨_, rfl⟩, trivial⟩ (fun ρ hρ w' _ => ?_) (den_norm (by simp only [List.cons_append, List.nil_append]; rfl) ?_)
    · have e1 := hρ _ (List.mem_cons_self ..)
      have e2 := hρ _ (List.mem_cons_of_mem _ (List.mem_cons_self ..))
      obtain ⟨k1, k2⟩ := flat49 L[j].1 L[j].2 M[j].1 M[j].2
      have := run_neqFlat un49 st49 gu49 _ _ k1 ρ _ _ 49 4 e1 e2 w'
      rw [k2] at this
      exact this
    · refine den_split (fun he => den_leaf_ne (by decide) (den_leaf ?_)) (fun he => ?_)
      · have he' : L[j] ≠ M[j] := by simpa [BE.den, nth, vbool] using he
        have : L ≠ M := fun e => he' (by subst e; rfl)
        simp [denL, SV.den, BE.den, this]
      · have he' : L[j] = M[j] := by simpa [BE.den, nth, vbool] using he
        refine den_ob64 (by simp only [IE.den, nth, vint]; omega) (den_next rfl hlt' fun w _ i hi => ?_)
        by_cases hij : i = j
        · subst hij; rw [hx, hy, he']
        · exact hI i (by omega)
  · have hge' : L.length ≤ j := by simpa [IE.den, nth, vint, vlen] using hge
    have : L = M := List.ext_getElem? fun i => by
      by_cases hi : i < L.length
      · exact hI i (by omega)
      · rw [List.getElem?_eq_none (by omega), List.getElem?_eq_none (by omega)]
    refine den_leaf_ne (by decide) (den_leaf ?_)
    simp [denL, SV.den, BE.den, this]

/-- the state of the reference agrees with that of the program -/
theorem c29 (b m : Nat) (s1 s2 r1 r2 : Value) (e : Ev) (Bl : Nat → Bool) (Pg : Nat → Int) (w : World) (h : EvAt w b m s1 s2 e) (hl : e.lim ≠ 0) (h1 : Given hE w r1 e.R) (h2 : Given ntcE w r2 e.L) (hm : e.R.length ≤ 60000) (hmL : e.L.length ≤ 60000) :
    Gives Try.prog 29 [pt b, refV e.lim e.cfg r1 r2 Bl Pg] w (.bool true) := by
  obtain ⟨ra, rc, rfl⟩ := h1.1.slice
  obtain ⟨pa, pc, rfl⟩ := h2.1.slice
  refine Runs.gives ?_
  have hh := runs mix t29 rfl rfl (ε := [pt b, .int .i64 e.lim, .int .u32 e.cfg, .slice ra e.R.length rc, .slice pa e.L.length pc, .bool (Bl 0), .bool (Bl 1), .bool (Bl 2), .bool (Bl 3), .bool (Bl 4), .bool (Bl 5), .bool (Bl 6), .bool (Bl 7), .int .u8 (Pg 0), .int .u8 (Pg 1), .int .u8 (Pg 2), .int .u8 (Pg 3), .int .u8 (Pg 4), .int .u8 (Pg 5), .int .u8 (Pg 6), .int .u8 (Pg 7)]) (heap := []) (w := w) (M := fun _ => False) (R := fun v w' => v = .bool true) ⟨⟨_, rfl⟩, ⟨_, rfl⟩, ⟨_, rfl⟩, ⟨_, _, _, rfl⟩, ⟨_, _, _, rfl⟩, ⟨_, rfl⟩, ⟨_, rfl⟩, ⟨_, rfl⟩, ⟨_, rfl⟩, ⟨_, rfl⟩, ⟨_, rfl⟩, ⟨_, rfl⟩, ⟨_, rfl⟩, ⟨_, rfl⟩, ⟨_, rfl⟩, ⟨_, rfl⟩, ⟨_, rfl⟩, ⟨_, rfl⟩, ⟨_, rfl⟩, ⟨_, rfl⟩, ⟨_, rfl⟩, trivial⟩ trivial (by simp [keys]) (by simp [keys]) (by simp [keys]) ?_
  · exact hh
  have lb := h.lt
  refine den_blk fun b1 k1 _ _ => den_norm (by simp only [List.cons_append, List.nil_append]; rfl) (den_blk fun b2 k2 _ _ => den_norm (by simp only [List.cons_append, List.nil_append]; rfl) ?_)
  have z1 : w.heap.size ≤ b1 := k1
  have z2 : w.heap.size ≤ b2 := k2
  refine den_callR (fun w1 l w2 => ∃ v, l = [v] ∧ Mine hE 37 w2 v e.R ∧ ∀ g, v.ownBlock = some g → w1.heap.size ≤ g) (fun w3 h3 => ?_) (fun w3 l w4 h3 hfl hR k34 => ?_)
  · refine (c25 b m _ _ e w3 (h.same (shown_same h3)) hl (by omega)).mono fun v w' ⟨q1, q2⟩ => ?_
    obtain ⟨va, vc, hv⟩ := q1.slice
    exact ⟨[v], ⟨⟨_, _, _, hv⟩, trivial⟩, rfl, v, rfl, q1, q2⟩
  obtain ⟨v, rfl, hM, hlo⟩ := hR
  obtain ⟨va, vc, rfl⟩ := hM.slice
  have s34 := (shown_same h3).trans k34
  have l1 : b1 < w3.heap.size := h3.lt (i := 21) (by simp [keys]) rfl
  have l2 : b2 < w3.heap.size := h3.lt (i := 22) (by simp [keys]) rfl
  have z3 : w.heap.size ≤ w3.heap.size := h3.base.size
  have z34 : w3.heap.size ≤ w4.heap.size := k34.size
  refine den_norm (by simp only [List.cons_append, List.nil_append]; rfl) ?_
  refine den_callR (fun w5 l w6 => ∃ v, l = [v] ∧ SeqAt Try.prog w5.heap.size w6.heap.size w6 v (ysN e.L)) (fun w5 h5 => ?_) ?_
  · refine (c24 b m _ _ e w5 (h.same (s34.trans (shown_same h5))) hl (by omega)).mono fun v w' hs => ⟨[v], ?_, ?_, v, rfl, hs⟩
    · obtain ⟨g, caps, Ft, rfl, _⟩ := hs.ex
      exact ⟨rfl, trivial⟩
    · rfl
  rintro w5 l w6 h5 _ ⟨fv, rfl, hsq⟩ h56
  have hfn : vnil fv = false := by
    obtain ⟨g, caps, Ft, rfl, _⟩ := hsq.ex
    rfl
  have M6 := (hM.same (shown_same h5)).same h56
  have s36 := s34.trans ((shown_same h5).trans h56)
  have A6 := h1.same s36
  have P6 := h2.same s36
  have z5 : w4.heap.size ≤ w5.heap.size := h5.kept.size
  have z56 : w5.heap.size ≤ w6.heap.size := h56.size
  refine den_norm (by simp only [List.cons_append, List.nil_append]; rfl) (den_split_false (by simp [BE.den, IE.den, nth, vlen]) (den_split_false (by simp [BE.den, nth, hfn]) ?_))
  refine den_for e.R.length (fun j w' => w6.heap.size ≤ w'.heap.size ∧ SeqAt Try.prog w5.heap.size w6.heap.size w' fv (ysN e.L) ∧ Mine hE 37 w' (.slice va e.R.length vc) e.R ∧ Given hE w' (.slice ra e.R.length rc) e.R ∧ Given ntcE w' (.slice pa e.L.length pc) e.L) ⟨rfl, fun w7 h7 => ⟨h7.kept.size, hsq.kept (M := fun _ => False) (shown_same h7) fun _ _ _ _ h => h, M6.same (shown_same h7), A6.same (shown_same h7), P6.same (shown_same h7)⟩⟩ ?_
  intro j w7 hj ⟨z67, hsq7, M7, A7, P7⟩ hk hfa
  refine den_norm (by simp only [List.cons_append, List.nil_append]; rfl) (den_splitLt (fun hlt => ?_) (fun hge => ?_))
  · have hlt' : j < e.R.length := by simpa [IE.den, nth, vint, vlen] using hlt
    have hx : e.R[j]? = some e.R[j] := by simp [hlt']
    generalize e.R[j] = x at hx
    intro w8 h8
    refine ⟨fun y => y = b1 ∨ y = b2, fun y hy => by simp [BlkIn, nth, blkOf, vaddr] at hy; omega, ?_⟩
    have s8 := shown_same h8
    refine den_idxD (E := hE) (L := e.R) x j [.int .u16 x] rfl (by decide) rfl hx ⟨⟨_, rfl⟩, trivial⟩ (whole _) (M7.same s8).arr (fun ad had hin => by have := hlo _ (hM.own had); omega) (den_norm (by simp only [List.cons_append, List.nil_append]; rfl) ?_)
    refine den_idxD (E := hE) (L := e.R) x j [.int .u16 x] rfl (by decide) rfl hx ⟨⟨_, rfl⟩, trivial⟩ (whole _) (A7.same s8).1 (fun ad had hin => by have := h1.2.2.2 ad had; omega) (den_norm (by simp only [List.cons_append, List.nil_append]; rfl) ?_)
    refine den_split_false (by simp [BE.den, IE.den, nth, vint]) ?_
    refine den_ob64 (by simp only [IE.den, nth, vint]; omega) (den_next rfl hlt' fun w9 h9 => ⟨Nat.le_trans z67 (Nat.le_trans h8.kept.size h9.kept.size), (hsq7.kept (M := fun _ => False) s8 fun _ _ _ _ h => h).kept (M := fun _ => False) (shown_same h9) fun _ _ _ _ h => h, (M7.same s8).same (shown_same h9), (A7.same s8).same (shown_same h9), (P7.same s8).same (shown_same h9)⟩)
  have z7 : w.heap.size ≤ w7.heap.size := hk.size
  have f1 : b2 < w7.heap.size ∧ b1 < w7.heap.size := by
    obtain ⟨x1, q1, l1⟩ := hfa.1.lt
    obtain ⟨x2, q2, l2⟩ := hfa.2.1.lt
    cases q1
    cases q2
    exact ⟨l1, l2⟩
  refine den_blk fun b3 k3 _ _ => den_norm (by simp only [List.cons_append, List.nil_append]; rfl) ?_
  have z37 : w7.heap.size ≤ b3 := k3
  refine den_range (e.L.map Ntc.cells) (fun k l wk => l = [.int .i64 (k : Int)] ∧ Given ntcE wk (.slice pa e.L.length pc) e.L) w5.heap.size w6.heap.size ?_ ?_ ?_ ?_ ?_ ?_
  · intro y hy
    obtain ⟨x, _, rfl⟩ := List.mem_map.1 hy
    exact ⟨⟨_, rfl⟩, ⟨_, rfl⟩, ⟨_, rfl⟩, trivial⟩
  · intro y hy
    simp [BlkIn, nth, blkOf, vaddr] at hy
    omega
  · intro w8 h8
    exact hsq7.kept h8.kept fun x hx1 hx2 hx3 hx4 => by simp [BlkIn, nth, blkOf, vaddr] at hx4; omega
  · intro w8 h8
    exact ⟨rfl, P7.kept h8.kept fun ad had hx => by have := h2.2.2.2 ad had; simp [BlkIn, nth, blkOf, vaddr] at hx; omega⟩
  · rintro w8 Ft h8 k y hy l hl' w9 w10 ⟨rfl, P9⟩ hq hk' hfa' hFt
    rw [List.getElem?_map] at hy
    obtain ⟨x, hx, rfl⟩ := Option.map_eq_some_iff.1 hy
    have hkl : k < e.L.length := (List.getElem?_eq_some_iff.1 hx).1
    have P10 := P9.quiet hq
    refine den_norm (by simp only [List.cons_append, List.nil_append, Ntc.cells]; rfl) (den_blk fun b4 k4 _ kW => den_norm (by simp only [List.cons_append, List.nil_append]; rfl) ?_)
    have z10 : w10.heap.size ≤ b4 := k4
    have f3 : b3 < w10.heap.size := by obtain ⟨x1, q1, l1⟩ := hfa'.1.lt; cases q1; exact l1
    intro w11 h11
    refine ⟨fun y => y = b1 ∨ y = b2 ∨ y = b3 ∨ y = b4, fun y hy => by simp [BlkIn, nth, blkOf, vaddr] at hy; omega, ?_⟩
    have P11 := P10.same (shown_same h11)
    refine den_splitLe (fun hle => ?_) (fun hle => ?_)
    · have hle' : (e.L.length : Int) ≤ (k : Int) := hle
      omega
    have h10l : ∀ ad, vaddr (.slice pa e.L.length pc) = some ad → ad.block < w.heap.size := h2.2.2.2
    have zW : w.heap.size ≤ w10.heap.size := hk'.size
    refine den_idxD (E := ntcE) (L := e.L) x k x.cells rfl (by decide) rfl hx ⟨⟨_, rfl⟩, ⟨_, rfl⟩, ⟨_, rfl⟩, trivial⟩ (whole _) P11.1 (fun ad had hin => by have := h10l ad had; omega) (den_norm (by simp only [List.cons_append, List.nil_append, Ntc.cells]; rfl) ?_)
    refine den_pur [.bool false] ⟨⟨_, rfl⟩, trivial⟩ (fun ρ hρ w' _ => ?_) (den_norm (by simp only [List.cons_append, List.nil_append]; rfl) ?_)
    · have e1 := hρ _ (List.mem_cons_self ..)
      have e2 := hρ _ (List.mem_cons_of_mem _ (List.mem_cons_self ..))
      obtain ⟨k1, k2⟩ := flat23 x x
      have := run_neqFlat un23 sh23 gu23 _ _ k1 ρ _ _ 23 4 e1 e2 w'
      have e : (!(decide (x.t = x.t) && (decide (x.i = x.i) && decide (x.p = x.p)))) = false := by simp
      rw [k2, e] at this
      exact this
    refine den_split_false rfl ?_
    refine den_ob64 (by simp only [IE.den, nth, vint]; omega) (den_leaf_round hFt fun w12 h12 => ⟨by simp [SV.den, denL, IE.den, BE.den, nth, vint, vbool, vaddr, addO, addr_add], P11.kept h12.kept fun ad had hx => by have := h10l ad had; simp [BlkIn, nth, blkOf, vaddr] at hx; omega⟩)
  rintro w8 h8 l hl' w9 w10 ⟨rfl, P9⟩ hq hk' hfa'
  refine den_norm (by simp only [List.cons_append, List.nil_append]; rfl) (den_leafM_ne (by decide) (den_leafMA _ rfl fun wz wq hz hq2 => ?_))
  simp [SV.den, denL, IE.den, BE.den, nth, vint, vbool, vaddr, addO, addr_add, vlen]
end Go.Proofs.Ytfjlnfgbfclgbaa
