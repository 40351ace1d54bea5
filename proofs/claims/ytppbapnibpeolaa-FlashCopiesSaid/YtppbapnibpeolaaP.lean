/- The iterator over erase counts. No conditions beyond those that each theorem names. -/
import Derived.Test.YtppbapnibpeolaaO
set_option maxRecDepth 100000
set_option maxHeartbeats 2000000
set_option linter.unusedVariables false
set_option linter.unusedSimpArgs false
namespace Go.Proofs.Ytppbapnibpeolaa
open Go.Sx

theorem u24 : Try.prog.underlying 24 = some (.slice 3) := by kernel_rfl
theorem i3 : Try.prog.info? 3 = some Try.t3 := by kernel_rfl
theorem zt3 : Try.t3.zero = some (.int .i64 0) := by kernel_rfl
theorem s3 : Try.t3.size = intE.sz := by kernel_rfl
theorem by3 : Try.t3.bytes ≤ 1000 := by decide +kernel
theorem int_one (x : Int) : ∀ u ∈ intE.enc x, u.oneCell' = true := by intro u hu; simp [intE] at hu; subst hu; rfl
theorem c49 (s : Value) (nx er : Int) (hs : ∃ a n c, s = .slice a n c) (w : World) : Gives Try.prog 49 [.agg #[s, .int .i64 nx, .int .i64 er]] w (.int .i64 er) := by
  obtain ⟨a, n, c, rfl⟩ := hs
  exact gives mix t49 rfl rfl (ε := [.slice a n c, .int .i64 nx, .int .i64 er]) ⟨⟨_, _, _, rfl⟩, ⟨_, rfl⟩, ⟨_, rfl⟩, trivial⟩ (den_blk fun b k _ _ => den_norm (by simp only [List.cons_append, List.nil_append]; rfl) (den_leaf rfl))
theorem c48 (s : Value) (L : List Bv) (w : World) (hs : Arr blE w s L) (hsl : ∀ v ∈ L, ∃ a n c, v.s = .slice a n c) (hm : L.length ≤ 60000) : GivesR Try.prog 48 [s, fnV 49 []] w (fun v w' => Mine intE 3 w' v (L.map (·.er)) ∧ ∀ g, v.ownBlock = some g → w.heap.size ≤ g) := by
  obtain ⟨a, c, rfl⟩ := hs.slice
  refine givesR mix t48 rfl rfl (ε := [.slice a L.length c, fnV 49 []]) ⟨⟨_, _, _, rfl⟩, rfl, trivial⟩ ?_
  refine den_loop (fun ls w' => ∃ (j : Nat) (out : Value), j ≤ L.length ∧ ls = [.int .i64 (j : Int), out] ∧ Mine intE 3 w' out ((L.take j).map (·.er)) ∧ (∀ g, out.ownBlock = some g → w.heap.size ≤ g)) (fun ls _ => L.length - (vint (nth ls 0)).toNat) (fun w1 h1 => ⟨0, _, by omega, rfl, by rw [List.take_zero]; exact Mine.nil, fun g hg => by cases hg⟩) ?_
  rintro w1 l w2 h1 hfl ⟨j, out, hj, rfl, hO, hOb⟩ hk2 hfa2
  obtain ⟨oa, oc, e0⟩ := hO.slice
  have hlen : ((L.take j).map (·.er)).length = j := by simp; omega
  rw [hlen] at e0
  subst e0
  have zW : w.heap.size ≤ w2.heap.size := hk2.size
  have hA := hs.same hk2
  refine den_norm (by simp only [List.cons_append, List.nil_append]; rfl) (den_splitLt (fun hlt => ?_) (fun hge => ?_))
  rotate_left
  · have hge' : (L.length : Int) ≤ (j : Int) := hge
    have e1 : L.take j = L := List.take_of_length_le (by omega)
    refine den_leaf' fun w3 h3 => (if_neg (by decide)).mpr ⟨_, rfl, ⟨?_, hOb⟩, h3.base⟩
    rw [e1] at hO
    exact hO.same (shown_same h3)
  have hlt' : j < L.length := by have : (j : Int) < (L.length : Int) := hlt; omega
  obtain ⟨x, hx⟩ : ∃ x, L[j]? = some x := ⟨_, List.getElem?_eq_getElem hlt'⟩
  obtain ⟨xa, xn, xc, ex⟩ := hsl x (List.mem_of_getElem? hx)
  refine den_idx2 (E := blE) (L := L) x j [.slice xa xn xc, .int .i64 x.nx, .int .i64 x.er] hA rfl (by decide) rfl hx ⟨⟨_, _, _, rfl⟩, ⟨_, rfl⟩, ⟨_, rfl⟩, trivial⟩ (fun m u hu => by simp only [blE, ex]; simpa using hu) (fun w3 h3 => hA.same (shown_same h3)) (fun ad had hin => by simp [BlkIn, nth, blkOf, vaddr] at hin) (fun w3 h3 => den_norm (by simp only [List.cons_append, List.nil_append]; rfl) (den_blk fun b7 k7 _ _ => den_norm (by simp only [List.cons_append, List.nil_append]; rfl) ?_))
  have z3 : w2.heap.size ≤ w3.heap.size := h3.kept.size
  have z7 : w3.heap.size ≤ b7 := k7
  refine den_callF rfl rfl (by kernel_rfl) (fun _ _ => False) (fun w3 l w4 => l = [.int .i64 x.er]) (fun _ _ _ h _ => h.elim) (fun w4 h4 => ?_) (fun w4 l w5 h4 hfl hR hk5 => ?_)
  · have := c49 (.slice xa xn xc) x.nx x.er ⟨_, _, _, rfl⟩ w4
    exact ⟨Calls.mono this.run fun e w' ⟨h1, h2⟩ => ⟨_, h1, ⟨[.int .i64 x.er], ⟨⟨_, rfl⟩, trivial⟩, rfl, rfl⟩, h2⟩⟩
  subst hR
  have s34 : Same w3 w4 := shown_new h4 fun y hy => by simp [BlkIn, nth, blkOf, vaddr] at hy; omega
  have s25 : Same w2 w5 := ((shown_same h3).trans s34).trans hk5
  have z5 : w2.heap.size ≤ w5.heap.size := s25.size
  have hO5 := hO.same s25
  refine den_norm (by simp only [List.cons_append, List.nil_append]; rfl) (den_blk fun b9 k9 _ _ => den_norm (by simp only [List.cons_append, List.nil_append]; rfl) ?_)
  have z9 : w5.heap.size ≤ b9 := k9
  refine den_push (E := intE) (T := 3) rfl u24 i3 zt3 s3 rfl (by decide) by3 int_one (.slice oa j oc) ((L.take j).map (·.er)) x.er rfl rfl rfl (by omega) (fun g hg _ => .inl (hOb g hg)) (by simp [keys]) (fun wa ha => hO5.same (shown_same ha)) ?_ (fun hd => by cases hd) (fun _ => rfl) (fun wa v' wb ha hv' kab hfr hap => den_norm (by simp only [List.cons_append, List.nil_append]; rfl) ?_)
  · intro g hg _ hin2
    have q1 := hO.lt hg
    simp [BlkIn, nth, blkOf, vaddr] at hin2
    omega
  have za : w5.heap.size ≤ wa.heap.size := ha.kept.size
  refine den_ob64 ⟨by simp only [IE.den, nth, vint]; omega, by simp only [IE.den, nth, vint]; omega⟩ (den_leaf_eq fun w11 g11 => ⟨⟨j + 1, v', by omega, ?_, ?_, ?_⟩, ?_⟩)
  · show [Value.int .i64 ((j : Int) + 1), v'] = _
    rw [show ((j : Int) + 1) = ((j + 1 : Nat) : Int) by simp]
  · rw [List.take_add_one, hx, List.map_append]
    exact hv'.same (shown_same g11)
  · intro g hg
    rcases hfr with ⟨e, _⟩ | ⟨b', e, hb', _⟩
    · rw [e] at hg; exact hOb g hg
    · rw [e] at hg; cases hg; omega
  · show L.length - ((j : Int) + 1).toNat < L.length - (j : Int).toNat
    omega

/-- what the iteration hands out -/
def prs (L : List Int) : List (List Value) := L.zipIdx.map fun p => [.int .i64 (p.2 : Int), .int .i64 p.1]
theorem prs_length (L : List Int) : (prs L).length = L.length := by simp [prs]
theorem prs_get {L : List Int} {j : Nat} {x : Int} (h : L[j]? = some x) : (prs L)[j]? = some [.int .i64 (j : Int), .int .i64 x] := by
  simp [prs, List.getElem?_zipIdx, h]
theorem prs_inv {L : List Int} {j : Nat} {y : List Value} (h : (prs L)[j]? = some y) : ∃ x, L[j]? = some x ∧ y = [.int .i64 (j : Int), .int .i64 x] := by
  have hj : j < L.length := by rw [← prs_length]; exact (List.getElem?_eq_some_iff.1 h).1
  have h2 := prs_get (List.getElem?_eq_getElem hj)
  rw [h2] at h
  exact ⟨_, List.getElem?_eq_getElem hj, (Option.some.inj h).symm⟩
theorem yvI (a b : Int) : yvals Try.prog [3, 3] [.int .i64 a, .int .i64 b] = [.int .i64 a, .int .i64 b] := by
  have : (Try.prog.info? 3).bind (·.zero) = some (.int .i64 0) := by kernel_rfl
  unfold yvals
  rw [this]
  simp only
  unfold yvals
  rw [this]
  simp only
  unfold yvals
  rfl
noncomputable abbrev ysW (L : List Int) : List (Array Value) := (prs L).map fun x => (yvals Try.prog [3, 3] x).toArray
theorem seq50 (bc : Nat) (s : Value) (L : List Int) (w : World) (hc : HasBlk w (pt bc) [s]) (hM : Mine intE 3 w s L) (hm : L.length ≤ 60000000000) :
    SeqOk Try.prog 50 #[pt bc] w (fun x => x = bc ∨ s.ownBlock = some x) (ysW L) := by
  intro l J Jx W hFt hY hJ
  obtain ⟨a, cp, hsl⟩ := hM.slice
  have obs : ∀ W' : World, (∀ x, x = bc ∨ s.ownBlock = some x → W'.heap[x]? = w.heap[x]?) → HasBlk W' (pt bc) [s] ∧ Mine intE 3 W' s L := fun W' h =>
    ⟨hc.of_eq fun x hx => by cases hx; exact h _ (.inl rfl), hM.of_eq fun g hg => h g (.inr hg)⟩
  have same : ∀ {W1 W2 : World}, HasBlk W1 (pt bc) [s] ∧ Mine intE 3 W1 s L → Same W1 W2 → HasBlk W2 (pt bc) [s] ∧ Mine intE 3 W2 s L := fun h hs => ⟨h.1.keptA hs fun h => h, h.2.same hs⟩
  have oW := obs W (hFt 0 W hJ)
  have hlen : (ysW L).length = L.length := by simp [ysW, prs_length]
  have h := runs mix t50 rfl rfl (ε := [.func (.yield l) #[] #[], pt bc]) (w := W) (M := fun x => ¬ (x = bc ∨ s.ownBlock = some x)) (R := fun v w' => v = .tuple #[] ∧ ∃ W0, (J L.length W0 ∨ Jx W0) ∧ Same W0 w') ⟨rfl, ⟨_, rfl⟩, trivial⟩ trivial (by simp [keys]) (by simp [keys]) (by simp [keys]) ?_
  · have h' : Runs Try.prog 50 [.func (.yield l) #[] #[], pt bc] W (fun x => ¬ (x = bc ∨ s.ownBlock = some x)) (fun v w' => v = .tuple #[] ∧ ∃ W0, (J L.length W0 ∨ Jx W0) ∧ Same W0 w') := by simpa [SV.den, denL, IE.den, BE.den, nth, vint, vbool, vaddr, addO, addr_add] using h
    refine Calls.mono h'.run fun e w' ⟨v, h1, ⟨_, h2⟩, _⟩ => ⟨v, h1, ?_⟩
    rw [hlen]
    exact h2
  subst hsl
  refine den_ldp [.slice a L.length cp] [.slice a L.length cp] ⟨⟨_, _, _, rfl⟩, trivial⟩ (whole _) (fun w1 h1 => (same oW (shown_same h1)).1.pts) (fun _ _ => by simp [BlkIn]) fun w1 h1 => den_norm (by simp only [List.cons_append, List.nil_append]; rfl) ?_
  refine den_for L.length (fun j w' => ∃ W0, J j W0 ∧ Same W0 w') ⟨rfl, fun w4 h4 => ⟨W, hJ, (shown_same h1).trans (shown_same h4)⟩⟩ ?_
  rintro j w4 hj ⟨W0, hJ0, hs0⟩ hk hfa
  have o0 := obs W0 (hFt j W0 hJ0)
  have o4 := same o0 hs0
  refine den_norm (by simp only [List.cons_append, List.nil_append]; rfl) (den_splitLt (fun hlt => ?_) (fun hge => ?_))
  · have hlt' : j < L.length := by simpa [IE.den, nth, vint, vlen] using hlt
    have hx : L[j]? = some L[j] := by simp [hlt']
    generalize L[j] = c at hx
    refine den_idx2 (E := intE) (L := L) c j [.int .i64 c] o4.2.arr rfl (by decide) rfl hx ⟨⟨_, rfl⟩, trivial⟩ (whole _) (fun w5 h5 => (same o4 (shown_same h5)).2.arr) (fun _ _ => by simp [BlkIn]) fun w5 h5 => den_norm (by simp only [List.cons_append, List.nil_append]; rfl) ?_
    have s5 := hs0.trans (shown_same h5)
    refine den_yield rfl (l := l) rfl (fun _ x => x < W0.heap.size ∧ ¬ (x = bc ∨ (Value.slice a L.length cp).ownBlock = some x)) (fun _ v w' => if v then J (j + 1) w' else Jx w') (fun _ => rfl) (fun w9 h9 x hx _ => ?_) (fun w9 h9 => ?_) (fun w9 v w10 h9 hR hk10 => den_norm (by simp only [List.cons_append, List.nil_append]; rfl) ?_)
    · exact ⟨fun hd => (by cases hd), fun _ => hx.2, fun hin => by simp [BlkIn, nth, blkOf, vaddr] at hin, fun hx => by cases hx⟩
    · obtain ⟨fn, tm, as_, bd, hy1, hy2⟩ := hY j (#[.int .i64 j, .int .i64 c]) W0 w9 (by rw [List.getElem?_map, prs_get hx, Option.map_some, yvI]) hJ0 (s5.trans (shown_same h9))
      exact ⟨fn, tm, as_, bd, hy1, hy2.mono fun e w' ⟨v, h1, h2, h3⟩ => ⟨v, h1, h3, h2.mono fun _ _ h => h⟩⟩
    · refine den_splitNot (fun hv => ?_) (fun hv => ?_)
      · have hv' : v = false := hv
        subst hv'
        refine den_leaf_ne (by decide) (den_leafA _ rfl fun w11 h11 => ⟨rfl, w10, .inr hR, shown_same h11⟩)
      · have hv' : v = true := hv
        subst hv'
        exact den_ob64 (by simp only [IE.den, nth, vint]; omega) (den_next rfl hlt' fun w11 h11 => ⟨w10, hR, shown_same h11⟩)
  · have hge' : L.length ≤ j := by simpa [IE.den, nth, vint, vlen] using hge
    obtain rfl : j = L.length := by omega
    exact den_leaf_ne (by decide) (den_leafA _ rfl fun w5 h5 => ⟨rfl, W0, .inl hJ0, hs0.trans (shown_same h5)⟩)
theorem go50 : goFunc Try.prog 50 = true := by kernel_rfl
def Dv.ers (d : Dv) : List Int := d.bs.map (·.er)
def Dv.erases (d : Dv) (B : Int) : Int := if d.hasB B then (d.blk B).er else 0
section
variable {w : World} {S T : Nat → Prop} {b mf : Nat} {sB : Value} {Lb : List Bv} {d : Dv}
theorem DevM.ers (h : DevM w S T b mf sB Lb d) : Lb.map (·.er) = d.ers := by
  unfold Dv.ers
  apply List.ext_getElem?
  intro i
  rw [List.getElem?_map, List.getElem?_map]
  by_cases hi : i < Lb.length
  · have hi' : i < d.bs.length := by rw [← h.len]; exact hi
    rw [List.getElem?_eq_getElem hi, List.getElem?_eq_getElem hi']
    have := (h.pg i _ _ (List.getElem?_eq_getElem hi) (List.getElem?_eq_getElem hi')).2.1
    simp [this]
  · have hl := h.len
    rw [List.getElem?_eq_none (by omega), List.getElem?_eq_none (by omega)]
    rfl
theorem DevM.sls (h : DevM w S T b mf sB Lb d) : ∀ v ∈ Lb, ∃ a n c, v.s = .slice a n c := by
  intro v hv
  obtain ⟨i, hi⟩ := List.getElem?_of_mem hv
  have hi' : i < d.bs.length := by rw [← h.len]; exact (List.getElem?_eq_some_iff.1 hi).1
  obtain ⟨_, _, L, hL, _⟩ := h.pg i v _ hi (List.getElem?_eq_getElem hi')
  obtain ⟨a, c, e⟩ := hL.slice
  exact ⟨_, _, _, e⟩
theorem seqAt (w0 w6 : World) (b1 : Nat) (v : Value) (L : List Int) (hc6 : HasBlk w6 (pt b1) [v]) (hM6 : Mine intE 3 w6 v L) (hm : L.length ≤ 60000) (z1 : w0.heap.size ≤ b1) (hlo : ∀ g, v.ownBlock = some g → w0.heap.size ≤ g) : SeqAt Try.prog w0.heap.size w6.heap.size w6 (fnV 50 [pt b1]) (ysW L) := by
  refine ⟨50, _, fun x => x = b1 ∨ v.ownBlock = some x, rfl, go50, seq50 b1 v L w6 hc6 hM6 (by omega), fun x hx => ?_⟩
  rcases hx with rfl | hx
  · have lx := hc6.pts.lt (by simp) x rfl
    exact ⟨z1, lx, lx, hc6.notRecA⟩
  · exact ⟨hlo x hx, hM6.lt hx, hM6.lt hx, hM6.notRec hx⟩
theorem c17 (w : World) (h : DevM w S T b mf sB Lb d) (hw : Wf d) : GivesR Try.prog 17 [pt b] w (fun v w' => SeqAt Try.prog w.heap.size w'.heap.size w' v (ysW d.ers)) := by
  obtain ⟨g, c, rfl⟩ := h.form hw
  have hl : Lb.length ≤ 8 := by have := h.len; have := hw.len; have := hw.b1; omega
  have hle : d.ers.length ≤ 8 := by rw [← h.ers]; simpa using hl
  refine givesR mix t17 rfl rfl (ε := [pt b]) ⟨⟨_, rfl⟩, trivial⟩ (den_blk fun b1 k1 _ _ => den_norm (by simp only [List.cons_append, List.nil_append]; rfl) ?_)
  have z1 : w.heap.size ≤ b1 := k1
  refine den_call_bool (b := false) (fun w1 h1 => c33 w1 (h.same (shown_same h1)) hw) rfl (fun w1 w2 h1 h2 => den_norm (by simp only [List.cons_append, List.nil_append]; rfl) (den_split_true rfl ?_))
  have s2 := (shown_same h1).trans h2
  refine den_notnil (i := 0) h.blk.pts ?_
  refine den_ldp [slc0 g Lb.length c] _ ⟨⟨_, _, _, rfl⟩, trivial⟩ (cellk _ 5 _ rfl) (fun w3 h3 => ((h.same s2).same (shown_same h3)).blk.pts) (fun y hy hin => by simp [BlkIn, nth, blkOf, vaddr] at hin) fun w3 h3 => den_norm (by simp only [List.cons_append, List.nil_append]; rfl) ?_
  have s3 := s2.trans (shown_same h3)
  refine den_callR (fun w1 l w2 => ∃ v, l = [v] ∧ Mine intE 3 w2 v d.ers ∧ ∀ g, v.ownBlock = some g → w1.heap.size ≤ g) (fun w4 h4 => ?_) (fun w4 l w5 h4 hfl hR k45 => ?_)
  · have H4 := h.same (s3.trans (shown_same h4))
    refine (c48 _ Lb w4 H4.own.arr H4.sls (by omega)).mono fun v w' ⟨q1, q2⟩ => ?_
    obtain ⟨va, vc, hv⟩ := q1.slice
    rw [h.ers] at q1
    exact ⟨[v], ⟨⟨_, _, _, hv⟩, trivial⟩, rfl, v, rfl, q1, q2⟩
  obtain ⟨v, rfl, hM, hlo⟩ := hR
  have z4 : w.heap.size ≤ w4.heap.size := h4.base.size
  have l1 : b1 < w4.heap.size := h4.lt (i := 1) (by simp [keys]) rfl
  refine den_norm (by simp only [List.cons_append, List.nil_append]; rfl) (den_leafR _ rfl fun w6 h6 => ?_)
  have hc6 : HasBlk w6 (pt b1) [v] := h6.facts.1
  have hM6 : Mine intE 3 w6 v d.ers := hM.kept h6.kept fun g hg hin => by have := hlo g hg; simp [BlkIn, nth, blkOf, vaddr] at hin; omega
  exact seqAt w w6 b1 v d.ers hc6 hM6 (by omega) z1 fun y hy => by have := hlo y hy; omega
theorem er_get (h : DevM w S T b mf sB Lb d) {k : Nat} {x : Int} (hx : d.ers[k]? = some x) : d.erases (k : Int) = x := by
  unfold Dv.ers at hx
  rw [List.getElem?_map] at hx
  obtain ⟨y, hy, rfl⟩ := Option.map_eq_some_iff.1 hx
  have hk := (List.getElem?_eq_some_iff.1 hy).1
  unfold Dv.erases
  rw [if_pos (Dv.hasB_iff.2 ⟨by omega, by omega⟩)]
  unfold Dv.blk
  simp [hy]
theorem c27 (B : Int) (w : World) (h : DevM w S T b mf sB Lb d) (hw : Wf d) : Gives Try.prog 27 [pt b, .int .i64 B] w (.int .i64 (d.erases B)) := by
  refine Runs.gives ?_
  refine runs mix t27 rfl rfl (ε := [pt b, .int .i64 B]) (heap := []) (w := w) (M := fun _ => False) (R := fun v _ => v = .int .i64 (d.erases B)) ⟨⟨_, rfl⟩, ⟨_, rfl⟩, trivial⟩ trivial (by simp [keys]) (by simp [keys]) (by simp [keys]) ?_
  refine den_blk fun b2 k2 _ _ => den_norm (by simp only [List.cons_append, List.nil_append]; rfl) (den_blk fun b3 k3 _ _ => den_norm (by simp only [List.cons_append, List.nil_append]; rfl) ?_)
  refine den_callR (fun w5 l w6 => ∃ v, l = [v] ∧ SeqAt Try.prog w5.heap.size w6.heap.size w6 v (ysW d.ers)) (fun wx hx => ?_) ?_
  · refine (c17 wx (h.same (shown_same hx)) hw).mono fun v w' hs => ⟨[v], ?_, ?_, v, rfl, hs⟩
    · obtain ⟨g, caps, Ft, rfl, _⟩ := hs.ex
      exact ⟨rfl, trivial⟩
    · rfl
  rintro wn l wo hn _ ⟨fv, rfl, hsq⟩ hno
  have l2 : b2 < wn.heap.size := hn.lt (i := 2) (by simp [keys]) rfl
  have l3 : b3 < wn.heap.size := hn.lt (i := 3) (by simp [keys]) rfl
  refine den_norm (by simp only [List.cons_append, List.nil_append]; rfl) ?_
  refine den_range (prs d.ers) (fun k l _ => l = [] ∧ ∀ i : Nat, i < k → i < d.ers.length → (i : Int) ≠ B) wn.heap.size wo.heap.size ?_ ?_ ?_ ?_ ?_ ?_
  · intro x hx
    obtain ⟨i, hi⟩ := List.getElem?_of_mem hx
    obtain ⟨y, _, rfl⟩ := prs_inv hi
    exact ⟨⟨_, rfl⟩, ⟨_, rfl⟩, trivial⟩
  · intro y hy
    simp [BlkIn, nth, blkOf, vaddr] at hy
    omega
  · intro wx hx
    exact hsq.kept (M := fun _ => False) (shown_same hx) fun _ _ _ _ h => h
  · intro wx hx
    exact ⟨rfl, fun i hi => by omega⟩
  · rintro wx Ft hx k y hy l hl w0 w' ⟨rfl, hno2⟩ hq hk hfa hFt
    obtain ⟨x, hx2, rfl⟩ := prs_inv hy
    refine den_norm (by simp only [List.cons_append, List.nil_append]; rfl) (den_splitEq (fun he => ?_) (fun hne => ?_))
    · have he' : (k : Int) = B := he
      refine den_resume fun w13 h13 w14 hq14 hk14 => ?_
      intro wz hz wq hqq hb
      refine (if_neg (by decide)).mpr ⟨_, rfl, ?_, hb⟩
      rw [← he', er_get h hx2]
      rfl
    · have hne' : (k : Int) ≠ B := hne
      exact den_leaf_round hFt fun w13 h13 => ⟨rfl, fun i hi hil => by
        by_cases e : i = k
        · subst e; exact hne'
        · exact hno2 i (by omega) hil⟩
  · rintro wx hx l hl wy wz ⟨rfl, hno2⟩ hq hk2 hfa2
    refine den_norm (by simp only [List.cons_append, List.nil_append]; rfl) (den_leafMA _ rfl fun _ _ _ _ => ?_)
    have e : d.erases B = 0 := by
      unfold Dv.erases
      split
      · rename_i hB
        obtain ⟨j, e, hj, _⟩ := Dv.blkAt hB
        have hl : d.ers.length = d.bs.length := by simp [Dv.ers]
        exact absurd e.symm (hno2 j (by rw [prs_length]; omega) (by omega))
      · rfl
    rw [e]
    rfl
theorem den_m27 {G : Ctx} {Λ : Nat → List Value → World → Prop} {ε : List Value} {wx ws : World} {X : Nat → Prop} {k : VC} {args : List SV} {j : Nat} {drawn : Bool} {t t' un : List Nat} {fs : Facts} (hP : G.P = Try.prog) (B : Int) (r : Int) (hr : d.erases B = r) (ha : denL ε args = [pt b, .int .i64 B]) (hj : ∀ v, nth (ε ++ [v]) j = v) (H : ∀ w, Shown G ε t fs wx w → DevM w S T b mf sB Lb d) (hw : Wf d)
    (hk : ∀ w w', Shown G ε t fs wx w → Same w w' → k.den G Λ (ε ++ [.int .i64 r]) w' (if drawn then ws else w') (if drawn then X else BlkIn ε t')) :
    (VC.call 27 args [.int .i64] (.int .i64 (.var j)) [] drawn t t' un fs k).den G Λ ε wx ws X :=
  den_call_int (x := r) (fun w hs => by rw [ha, hP, ← hr]; exact c27 B w (H w hs) hw) (hj _) hk
end
end Go.Proofs.Ytppbapnibpeolaa
