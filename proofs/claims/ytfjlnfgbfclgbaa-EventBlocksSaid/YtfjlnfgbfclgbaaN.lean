/- The steps of events: Read, Configure, Abort, Reset, Copy. No conditions beyond those that each theorem names. -/
import Derived.Test.YtfjlnfgbfclgbaaM
set_option maxRecDepth 100000
set_option maxHeartbeats 2000000
set_option linter.unusedVariables false
set_option linter.unusedSimpArgs false
namespace Go.Proofs.Ytfjlnfgbfclgbaa
open Go.Sx

theorem go45 : goFunc Try.prog 45 = true := by kernel_rfl
theorem go34 : goFunc Try.prog 34 = true := by kernel_rfl
theorem go55 : goFunc Try.prog 55 = true := by kernel_rfl
theorem go37 : goFunc Try.prog 37 = true := by kernel_rfl
theorem go58 : goFunc Try.prog 58 = true := by kernel_rfl

theorem c33 (b m : Nat) (s1 s2 : Value) (e : Ev) (w : World) (h : EvAt w b m s1 s2 e) (hl : e.lim ≠ 0) (g : Nat) (caps : List Value) (hg : goFunc Try.prog g = true) (M : Nat → Prop) (R : World → Prop) (hR : ∀ w1 w2, R w1 → Same w1 w2 → R w2)
    (hr : ∀ w', Same w w' → Runs Try.prog g caps w' M (fun v w'' => v = .tuple #[] ∧ R w'')) : Runs Try.prog 33 [pt b, .func (.func g) #[] caps.toArray] w M (fun v w' => v = .int .i64 0 ∧ R w') := by
  have hh := runs mix t33 rfl rfl (ε := [pt b, .func (.func g) #[] caps.toArray]) (heap := []) (w := w) (M := M) (R := fun v w' => v = .int .i64 0 ∧ R w') ⟨⟨_, rfl⟩, rfl, trivial⟩ trivial (by simp [keys]) (by simp [keys]) (by simp [keys]) ?_
  · exact hh
  refine den_call_bool (b := decide (e.lim = 0)) (fun w1 h1 => c39 b m _ _ e w1 (h.same (shown_same h1))) rfl (fun w1 w2 h1 h2 => den_norm (by simp only [List.cons_append, List.nil_append]; rfl) (den_split_false (by simp [BE.den, nth, vbool, hl]) ?_))
  refine den_callF (vals := []) rfl rfl hg (fun _ => M) (fun _ l w' => l = [] ∧ R w') (fun w3 h3 x hx hlt => ⟨fun hd => (by cases hd), fun _ => hx, fun hin => by simp [BlkIn, nth, blkOf, vaddr] at hin, fun hx => by cases hx⟩) (fun w3 h3 => ?_) (fun w3 l w4 h3 hfl hR' hk => ?_)
  · exact (hr w3 (((shown_same h1).trans h2).trans (shown_same h3))).mono (fun v w' ⟨q1, q2⟩ _ => ⟨[], trivial, q1, rfl, q2⟩) fun _ _ h => h
  · obtain ⟨rfl, hR'⟩ := hR'
    exact den_leafA _ rfl fun w5 h5 => ⟨rfl, hR _ _ hR' (shown_same h5)⟩

theorem EvAt.mapped {w w' : World} {b m : Nat} {s1 s2 : Value} {e : Ev} {B' : Int → Option Int} (h : EvAt w b m s1 s2 e) (hk : Kept (fun x => x = m) w w') (hm : MapAt .u8 .u8 w' m B') : EvAt w' b m s1 s2 { e with B := B' } := by
  refine ⟨?_, h.r.kept hk fun ad had => (h.ne1 ad had).2, h.l.kept hk fun ad had => (h.ne2 ad had).2, hm, h.ne1, h.ne2⟩
  obtain ⟨b', ty, ee, hh⟩ := h.blk
  cases ee
  exact ⟨b, ty, rfl, (hk.block b (Array.getElem?_eq_some_iff.1 hh).1 h.ne).trans hh⟩
theorem EvAt.pts_ne {w : World} {b m pp : Nat} {s1 s2 v : Value} {e : Ev} (h : EvAt w b m s1 s2 e) (hp : PtsTo w (pt pp) [v]) : pp ≠ m := by
  rintro rfl
  obtain ⟨b', hb', hc⟩ := hp.at_
  cases hb'
  obtain ⟨es, cl, hm, _⟩ := h.map
  have := hc 0 v rfl
  simp [World.cell?, hm] at this

theorem c45 (b m pv pp : Nat) (s1 s2 : Value) (e : Ev) (hB : Bytes e.B) (page : Int) (w : World) (h : EvAt w b m s1 s2 e) (hv : PtsTo w (pt pv) [pt b]) (hp : PtsTo w (pt pp) [.int .u8 page]) :
    Runs Try.prog 45 [pt pv, pt pp] w (fun x => x = m) (fun v w' => v = .tuple #[] ∧ MapAt .u8 .u8 w' m (readB e.B page)) := by
  have hh := runs mix t45 rfl rfl (ε := [pt pv, pt pp]) (heap := []) (w := w) (M := fun x => x = m) (R := fun v w' => v = .tuple #[] ∧ MapAt .u8 .u8 w' m (readB e.B page)) ⟨⟨_, rfl⟩, ⟨_, rfl⟩, trivial⟩ trivial (by simp [keys]) (by simp [keys]) (by simp [keys]) ?_
  · exact hh
  refine den_ldp [pt b] _ ⟨⟨_, rfl⟩, trivial⟩ (whole _) (fun w1 h1 => hv.same (shown_same h1)) (fun _ _ => by simp [BlkIn]) fun w1 h1 => den_norm (by simp only [List.cons_append, List.nil_append]; rfl) ?_
  refine den_notnil (i := 2) h.blk.pts ?_
  refine den_ldp [.map (some m)] _ ⟨⟨_, rfl⟩, trivial⟩ (cellk _ 4 _ rfl) (fun w2 h2 => ((h.same (shown_same h1)).same (shown_same h2)).blk.pts) (fun _ _ => by simp [BlkIn]) fun w2 h2 => den_norm (by simp only [List.cons_append, List.nil_append]; rfl) ?_
  have s2' := (shown_same h1).trans (shown_same h2)
  refine den_callM (fun _ x => x = m) (fun _ l w' => l = [] ∧ MapAt .u8 .u8 w' m (readB e.B page)) (fun w3 h3 x hx hlt => ⟨fun hd => (by cases hd), fun _ => hx, fun hin => by simp [BlkIn, nth, blkOf, vaddr] at hin, fun hx => by cases hx⟩) (fun w3 h3 => ?_) (fun w3 l w4 h3 hfl hR' hk => ?_)
  · have s3 := s2'.trans (shown_same h3)
    exact (c46 e.B hB page pp m w3 (hp.same s3) (h.same s3).map (h.pts_ne hp)).mono (fun v w' ⟨q1, q2⟩ _ => ⟨[], trivial, q1, ⟨rfl, q2⟩, trivial⟩) fun _ _ h => h
  · obtain ⟨rfl, hR'⟩ := hR'
    exact den_leafA _ rfl fun w5 h5 => ⟨rfl, hR'.same (shown_same h5)⟩
theorem c23 (b m : Nat) (s1 s2 : Value) (e : Ev) (hB : Bytes e.B) (page : Int) (w : World) (h : EvAt w b m s1 s2 e) (hl : e.lim ≠ 0) :
    Runs Try.prog 23 [pt b, .int .u8 page] w (fun x => x = m) (fun v w' => v = .int .i64 0 ∧ EvAt w' b m s1 s2 { e with B := readB e.B page }) := by
  have hh := runs mix t23 rfl rfl (ε := [pt b, .int .u8 page]) (heap := []) (w := w) (M := fun x => x = m) (R := fun v w' => v = .int .i64 0 ∧ MapAt .u8 .u8 w' m (readB e.B page)) ⟨⟨_, rfl⟩, ⟨_, rfl⟩, trivial⟩ trivial (by simp [keys]) (by simp [keys]) (by simp [keys]) ?_
  · have hh' : Runs Try.prog 23 [pt b, .int .u8 page] w (fun x => x = m) (fun v w' => v = .int .i64 0 ∧ MapAt .u8 .u8 w' m (readB e.B page)) := hh
    exact hh'.mono (fun v w' ⟨q1, q2⟩ hk => ⟨q1, h.mapped hk q2⟩) fun _ _ h => h
  refine den_blk fun b2 k2 _ _ => den_norm (by simp only [List.cons_append, List.nil_append]; rfl) (den_blk fun b3 k3 _ _ => den_norm (by simp only [List.cons_append, List.nil_append]; rfl) ?_)
  have z2 : w.heap.size ≤ b2 := k2
  have z3 : w.heap.size ≤ b3 := k3
  have lm := h.map.lt
  refine den_callM (fun _ x => x = m) (fun _ l w' => l = [.int .i64 0] ∧ MapAt .u8 .u8 w' m (readB e.B page)) (fun w3 h3 x hx hlt => ⟨fun hd => (by cases hd), fun _ => hx, fun hin => by simp [BlkIn, nth, blkOf, vaddr] at hin; omega, fun hx => by cases hx⟩) (fun w3 h3 => ?_) (fun w3 l w4 h3 hfl hR' hk => ?_)
  · have s3 := shown_same h3
    have p2 : HasBlk w3 (pt b2) [pt b] := h3.facts.2.1
    have p3 : HasBlk w3 (pt b3) [.int .u8 page] := h3.facts.1
    exact (c33 b m s1 s2 e w3 (h.same s3) hl 45 [pt b2, pt b3] go45 (fun x => x = m) (fun w' => MapAt .u8 .u8 w' m (readB e.B page)) (fun w1 w2 q1 q2 => q1.same q2) (fun w4 h4 => c45 b m b2 b3 s1 s2 e hB page w4 ((h.same s3).same h4) (p2.pts.same h4) (p3.pts.same h4))).mono (fun v w' ⟨q1, q2⟩ _ => ⟨[.int .i64 0], ⟨⟨_, rfl⟩, trivial⟩, q1, ⟨rfl, q2⟩, trivial⟩) fun _ _ h => h
  · obtain ⟨rfl, hR'⟩ := hR'
    exact den_leafA _ rfl fun w5 h5 => ⟨rfl, hR'.same (shown_same h5)⟩

/-- another struct in the same block -/
theorem runs_to {f : Nat} {args : List Value} {w : World} {M M' : Nat → Prop} {R : Value → World → Prop} (h : Runs Try.prog f args w M (fun v w' => R v w' ∧ Kept M' w w')) : Runs Try.prog f args w M' R :=
  ⟨Calls.mono h.run fun e w' ⟨v, h1, h2, h3⟩ => ⟨v, h1, h2.1, h2.2⟩⟩
def cfgE (e : Ev) (c : Int) : Ev := { e with cfg := c, L := cfgL e.L c }
theorem c34k (b m pc pv : Nat) (s1 s2 : Value) (e : Ev) (c : Int) (hc : 0 ≤ c ∧ c < 4294967296) (hok : ∀ n ∈ e.L, n.Ok) (hm : e.L.length ≤ 60000) (w : World) (h : EvAt w b m s1 s2 e) (hv : HasBlk w (pt pv) [pt b]) (hp : HasBlk w (pt pc) [.int .u32 c]) :
    Runs Try.prog 34 [pt pc, pt pv] w (fun x => x = b) (fun v w' => v = .tuple #[] ∧ ∃ s2', EvAt w' b m s1 s2' (cfgE e c) ∧ ∀ ad, vaddr s2' = some ad → w.heap.size ≤ ad.block) := by
  obtain ⟨sa, sc, rfl⟩ := h.r.1.slice
  obtain ⟨ta, tc, rfl⟩ := h.l.1.slice
  have lb := h.lt
  have lm := h.map.lt
  have lv := hv.pts.lt (by simp) pv rfl
  have lp := hp.pts.lt (by simp) pc rfl
  have n1 : pc ≠ pv := by
    rintro rfl
    obtain ⟨x, t, q, hh⟩ := hv
    obtain ⟨x', t', q', hh'⟩ := hp
    cases q
    cases q'
    rw [hh] at hh'
    cases hh'
  have n2 : pc ≠ b := by
    rintro rfl
    obtain ⟨x, t, q, hh⟩ := h.blk
    obtain ⟨x', t', q', hh'⟩ := hp
    cases q
    cases q'
    rw [hh] at hh'
    cases hh'
  have n3 : pv ≠ b := by
    rintro rfl
    obtain ⟨x, t, q, hh⟩ := h.blk
    obtain ⟨x', t', q', hh'⟩ := hv
    cases q
    cases q'
    rw [hh] at hh'
    cases hh'
  refine runs_to (M := fun x => x = pc ∨ x = pv ∨ x = b) ?_
  have hh := runs mix t34k rfl rfl (ε := [pt pc, .int .u32 c, pt pv, pt b, .int .i64 e.lim, .int .u32 e.cfg, .slice sa e.R.length sc, .slice ta e.L.length tc, .map (some m)]) (w := w) (M := fun x => x = pc ∨ x = pv ∨ x = b) (R := fun v w' => (v = .tuple #[] ∧ ∃ s2', EvAt w' b m (.slice sa e.R.length sc) s2' (cfgE e c) ∧ ∀ ad, vaddr s2' = some ad → w.heap.size ≤ ad.block) ∧ Kept (fun x => x = b) w w') ⟨⟨_, rfl⟩, ⟨_, rfl⟩, ⟨_, rfl⟩, ⟨_, rfl⟩, ⟨_, rfl⟩, ⟨_, rfl⟩, ⟨_, _, _, rfl⟩, ⟨_, _, _, rfl⟩, ⟨_, rfl⟩, trivial⟩ ⟨hp, hv, h.blk, trivial⟩ (by simp [keys]) ?_ ?_ ?_
  · exact hh
  · intro i j hi hj hij
    simp only [keys, List.mem_cons, List.not_mem_nil, or_false] at hi hj
    rcases hi with rfl | rfl | rfl <;> rcases hj with rfl | rfl | rfl <;> simp [nth, blkOf, vaddr] <;> first | omega | exact absurd rfl hij
  · intro i hi x hx
    simp only [keys, List.mem_cons, List.not_mem_nil, or_false] at hi
    rcases hi with rfl | rfl | rfl <;> (simp [nth, blkOf, vaddr] at hx; omega)
  refine den_startF fun w1 h1 => ?_
  have s1 := h1.kept
  have R0 := h.rest
  have lte : ∀ ad, vaddr (.slice ta e.L.length tc) = some ad → ad.block < w.heap.size := h.l.2.2.2
  have z1 : w.heap.size ≤ w1.heap.size := s1.size
  have R1 := R0.kept s1 (fun hx => by simp [BlkIn, nth, blkOf, vaddr] at hx; exact h.ne (by omega)) (fun ad had hx => by have := (h.ne1 ad had).1; simp [BlkIn, nth, blkOf, vaddr] at hx; omega) (fun ad had hx => by have := (h.ne2 ad had).1; simp [BlkIn, nth, blkOf, vaddr] at hx; omega)
  refine den_callR (fun w1 l w2 => ∃ v, l = [v] ∧ Mine ntcE 23 w2 v e.L ∧ ∀ g, v.ownBlock = some g → w1.heap.size ≤ g) (fun w4 h4 => ?_) (fun w4 l w5 h4 hfl hR k45 => ?_)
  · refine (c36 _ e.L w4 (R1.same (shown_same h4)).l.1 (by omega)).mono fun v w' ⟨q1, q2, _⟩ => ?_
    obtain ⟨va, vc, hv⟩ := q1.slice
    exact ⟨[v], ⟨⟨_, _, _, hv⟩, trivial⟩, rfl, v, rfl, q1, q2⟩
  obtain ⟨v, rfl, hM, hlo⟩ := hR
  have R5 := (R1.same (shown_same h4)).same k45
  have z4 : w1.heap.size ≤ w4.heap.size := h4.kept.size
  have z5 : w4.heap.size ≤ w5.heap.size := k45.size
  refine den_norm (by simp only [List.cons_append, List.nil_append]; rfl) ?_
  refine den_callM (fun _ x => v.ownBlock = some x) (fun _ l w' => ∃ v', l = [v'] ∧ Mine ntcE 23 w' v' (cfgL e.L c) ∧ v'.ownBlock = v.ownBlock) (fun w6 h6 x hx hlt => ⟨fun _ => .inl (by have := hlo x hx; omega), fun hlt2 => by have := hlo x hx; have : x < w.heap.size := hlt2; omega, fun hin => by have := hlo x hx; simp [BlkIn, nth, blkOf, vaddr] at hin; omega, fun hx => by cases hx⟩) (fun w6 h6 => ?_) (fun w6 l w7 h6 hfl hR' hk => ?_)
  · have p6 : HasBlk w6 (pt pc) [.int .u32 c] := h6.facts.1
    have M6 := hM.same (shown_same h6)
    have := c35 v (.func (.func 37) #[] #[pt pc]) e.L (fun n => !enI n.t n.i c) 37 [pt pc] w6 hm M6 rfl go37 (fun x w' hx hk => c37 x (hok x hx) pc c hc w' (p6.pts.kept hk fun y hy hz => by have hy' : pc = y := Option.some.inj hy; have := hlo _ hz; omega))
    refine this.mono (fun v' w' ⟨q1, q2⟩ _ => ?_) fun _ _ h => h
    obtain ⟨va, vc, hv'⟩ := q1.slice
    refine ⟨[v'], ⟨⟨_, _, _, hv'⟩, trivial⟩, rfl, ⟨v', rfl, ?_, q2⟩, trivial⟩
    have : (e.L.filter fun x => !(!enI x.t x.i c)) = cfgL e.L c := by unfold cfgL; congr 1; funext x; simp
    rw [← this]
    exact q1
  obtain ⟨v', rfl, hM', hown⟩ := hR'
  have R7 := (R5.same (shown_same h6)).kept hk (fun hx => by have := hlo _ hx; omega) (fun ad had hx => by have := hlo _ hx; have := h.r.2.2.2 ad had; omega) (fun ad had hx => by have := hlo _ hx; have := lte ad had; omega)
  have z6 : w5.heap.size ≤ w6.heap.size := h6.kept.size
  have z7 : w6.heap.size ≤ w7.heap.size := hk.size
  have fr : ∀ ad, vaddr v' = some ad → w1.heap.size ≤ ad.block := fun ad had => by
    have := hM'.own had
    rw [hown] at this
    have := hlo _ this
    omega
  have ktot : Kept (fun x => x = b) w w7 := by
    have k1 : Kept (fun x => x = b) w w1 := s1.mono fun x _ hx => by simp [BlkIn, nth, blkOf, vaddr] at hx; exact hx.symm
    have k6 : Kept (fun x => x = b) w w6 := ((k1.then (shown_same h4) fun _ _ h => h.elim).then k45 fun _ _ h => h.elim).then (shown_same h6) fun _ _ h => h.elim
    exact k6.then hk fun x hx hx' => by have := hlo x hx'; omega
  refine den_norm (by simp only [List.cons_append, List.nil_append]; rfl) (den_leafA _ rfl fun w8 h8 => ⟨⟨rfl, v', ?_, fun ad had => by have := fr ad had; omega⟩, ?_⟩)
  · have k8 := h8.kept
    have R8 := R7.kept k8 (fun hx => by simp [BlkIn, nth, blkOf, vaddr] at hx; exact h.ne hx) (fun ad had hx => by have := (h.ne1 ad had).1; simp [BlkIn, nth, blkOf, vaddr] at hx; omega) (fun ad had hx => by have := (h.ne2 ad had).1; simp [BlkIn, nth, blkOf, vaddr] at hx; omega)
    refine ⟨h8.facts.2.2.1, R8.r, ?_, R8.map, h.ne1, fun ad had => by have := fr ad had; omega⟩
    exact (hM'.kept k8 fun g hg hx => by rw [hown] at hg; have := hlo g hg; simp [BlkIn, nth, blkOf, vaddr] at hx; omega).given
  · exact ktot.then h8.kept fun x _ hx => by simp [BlkIn, nth, blkOf, vaddr] at hx; exact hx.symm
theorem c18 (b m : Nat) (s1 s2 : Value) (e : Ev) (c : Int) (hc : 0 ≤ c ∧ c < 4294967296) (hok : ∀ n ∈ e.L, n.Ok) (hm : e.L.length ≤ 60000) (w : World) (h : EvAt w b m s1 s2 e) (hl : e.lim ≠ 0) :
    Runs Try.prog 18 [pt b, .int .u32 c] w (fun x => x = b) (fun v w' => v = .int .i64 0 ∧ ∃ s2', EvAt w' b m s1 s2' (cfgE e c) ∧ ∀ ad, vaddr s2' = some ad → w.heap.size ≤ ad.block) := by
  have hh := runs mix t18 rfl rfl (ε := [pt b, .int .u32 c]) (heap := []) (w := w) (M := fun x => x = b) (R := fun v w' => v = .int .i64 0 ∧ ∃ s2', EvAt w' b m s1 s2' (cfgE e c) ∧ ∀ ad, vaddr s2' = some ad → w.heap.size ≤ ad.block) ⟨⟨_, rfl⟩, ⟨_, rfl⟩, trivial⟩ trivial (by simp [keys]) (by simp [keys]) (by simp [keys]) ?_
  · exact hh
  refine den_blk fun b2 k2 _ _ => den_norm (by simp only [List.cons_append, List.nil_append]; rfl) (den_blk fun b3 k3 _ _ => den_norm (by simp only [List.cons_append, List.nil_append]; rfl) ?_)
  have z2 : w.heap.size ≤ b2 := k2
  have z3 : w.heap.size ≤ b3 := k3
  have lb := h.lt
  refine den_callM (fun _ x => x = b) (fun _ l w' => l = [.int .i64 0] ∧ ∃ s2', EvAt w' b m s1 s2' (cfgE e c) ∧ ∀ ad, vaddr s2' = some ad → w.heap.size ≤ ad.block ∧ ad.block ≠ b2 ∧ ad.block ≠ b3) (fun w3 h3 x hx hlt => ⟨fun hd => (by cases hd), fun _ => hx, fun hin => by simp [BlkIn, nth, blkOf, vaddr] at hin; omega, fun hx => by cases hx⟩) (fun w3 h3 => ?_) (fun w3 l w4 h3 hfl hR' hk => ?_)
  · have s3 := shown_same h3
    have p2 : HasBlk w3 (pt b2) [pt b] := h3.facts.2.1
    have p3 : HasBlk w3 (pt b3) [.int .u32 c] := h3.facts.1
    have z := s3.size
    have l2 : b2 < w3.heap.size := h3.lt (i := 2) (by simp [keys]) rfl
    have l3 : b3 < w3.heap.size := h3.lt (i := 3) (by simp [keys]) rfl
    have sameB : ∀ {w4 : World} {x : Nat} {l : List Value}, HasBlk w3 (pt x) l → Same w3 w4 → HasBlk w4 (pt x) l := fun {w4 x l} hx hs => by
      obtain ⟨b', ty, q, hh⟩ := hx
      cases q
      exact ⟨_, ty, rfl, (hs.block _ (Array.getElem?_eq_some_iff.1 hh).1 (fun h => h)).trans hh⟩
    exact (c33 b m s1 s2 e w3 (h.same s3) hl 34 [pt b3, pt b2] go34 (fun x => x = b) (fun w' => ∃ s2', EvAt w' b m s1 s2' (cfgE e c) ∧ ∀ ad, vaddr s2' = some ad → w3.heap.size ≤ ad.block) (fun w1 w2 ⟨s2', q1, q2⟩ q => ⟨s2', q1.same q, q2⟩) (fun w4 h4 => (c34k b m b3 b2 s1 s2 e c hc hok hm w4 ((h.same s3).same h4) (sameB p2 h4) (sameB p3 h4)).mono (fun v w' ⟨q1, s2', q2, q3⟩ _ => ⟨q1, s2', q2, fun ad had => Nat.le_trans h4.size (q3 ad had)⟩) fun _ _ h => h)).mono (fun v w' ⟨q1, s2', q2, q3⟩ _ => ⟨[.int .i64 0], ⟨⟨_, rfl⟩, trivial⟩, q1, ⟨rfl, s2', q2, fun ad had => by have := q3 ad had; omega⟩, trivial⟩) fun _ _ h => h
  · obtain ⟨rfl, s2', hR', hfr⟩ := hR'
    exact den_leafA _ rfl fun w5 h5 => ⟨rfl, s2', hR'.same (shown_same h5), fun ad had => (hfr ad had).1⟩
end Go.Proofs.Ytfjlnfgbfclgbaa
