/- Events in memory, and the first of their methods. No conditions beyond those that each theorem names. -/
import Derived.Test.YtfjlnfgbfclgbaaC
import Derived.Test.YtfjlnfgbfclgbaaTB
set_option maxRecDepth 100000
set_option maxHeartbeats 1000000
set_option linter.unusedVariables false
set_option linter.unusedSimpArgs false
namespace Go.Proofs.Ytfjlnfgbfclgbaa
open Go.Sx

/-- events as a value -/
structure Ev where
  lim : Int
  cfg : Int
  R : List Int
  L : List Ntc
  B : Int → Option Int
/-- events in memory -/
structure EvAt (w : World) (b m : Nat) (s1 s2 : Value) (e : Ev) : Prop where
  blk : HasBlk w (pt b) [.int .i64 e.lim, .int .u32 e.cfg, s1, s2, .map (some m)]
  r : Given hE w s1 e.R
  l : Given ntcE w s2 e.L
  map : MapAt .u8 .u8 w m e.B
  ne1 : ∀ ad, vaddr s1 = some ad → ad.block ≠ b ∧ ad.block ≠ m
  ne2 : ∀ ad, vaddr s2 = some ad → ad.block ≠ b ∧ ad.block ≠ m
theorem EvAt.same {w w' : World} {b m : Nat} {s1 s2 : Value} {e : Ev} (h : EvAt w b m s1 s2 e) (hk : Same w w') : EvAt w' b m s1 s2 e := by
  refine ⟨?_, h.r.same hk, h.l.same hk, h.map.same hk, h.ne1, h.ne2⟩
  obtain ⟨b', ty, ee, hh⟩ := h.blk
  cases ee
  exact ⟨b, ty, rfl, (hk.block b (Array.getElem?_eq_some_iff.1 hh).1 (fun h => h)).trans hh⟩
theorem EvAt.lt {w : World} {b m : Nat} {s1 s2 : Value} {e : Ev} (h : EvAt w b m s1 s2 e) : b < w.heap.size := h.blk.pts.lt (by simp) b rfl
theorem EvAt.kept {w w' : World} {b m : Nat} {s1 s2 : Value} {e : Ev} {M : Nat → Prop} (h : EvAt w b m s1 s2 e) (hk : Kept M w w') (hb : ¬ M b) (hm : ¬ M m) (h1 : ∀ ad, vaddr s1 = some ad → ¬ M ad.block) (h2 : ∀ ad, vaddr s2 = some ad → ¬ M ad.block) : EvAt w' b m s1 s2 e := by
  refine ⟨?_, h.r.kept hk h1, h.l.kept hk h2, h.map.kept hk hm, h.ne1, h.ne2⟩
  obtain ⟨b', ty, ee, hh⟩ := h.blk
  cases ee
  exact ⟨b, ty, rfl, (hk.block b (Array.getElem?_eq_some_iff.1 hh).1 hb).trans hh⟩
/-- what was there stays, where only newer blocks turn -/
theorem EvAt.up {w0 w w' : World} {b m : Nat} {s1 s2 : Value} {e : Ev} {M : Nat → Prop} (h : EvAt w b m s1 s2 e) (h0 : EvAt w0 b m s1 s2 e) (hk : Kept M w w') (hM : ∀ x, M x → w0.heap.size ≤ x) : EvAt w' b m s1 s2 e :=
  h.kept hk (fun hx => by have := h0.lt; have := hM _ hx; omega) (fun hx => by have := h0.map.lt; have := hM _ hx; omega) (fun ad had hx => by have := h0.r.2.2.2 ad had; have := hM _ hx; omega) (fun ad had hx => by have := h0.l.2.2.2 ad had; have := hM _ hx; omega)
theorem EvAt.ne {w : World} {b m : Nat} {s1 s2 : Value} {e : Ev} (h : EvAt w b m s1 s2 e) : b ≠ m := by
  rintro rfl
  obtain ⟨b', ty, ee, hh⟩ := h.blk
  cases ee
  obtain ⟨es, cl, hm, _⟩ := h.map
  rw [hh] at hm
  cases hm
theorem cell0 (l : List Value) (v : Value) (h : l[0]? = some v) : ∀ (i : Nat) (u : Value), [v][i]? = some u → l[0 + i]? = some u := fun i u hu => by cases i with | zero => cases hu; exact h | succ i => simp at hu
theorem cellk (l : List Value) (k : Nat) (v : Value) (h : l[k]? = some v) : ∀ (i : Nat) (u : Value), [v][i]? = some u → l[k + i]? = some u := fun i u hu => by cases i with | zero => cases hu; exact h | succ i => simp at hu

theorem c39 (b m : Nat) (s1 s2 : Value) (e : Ev) (w : World) (h : EvAt w b m s1 s2 e) : Gives Try.prog 39 [pt b] w (.bool (decide (e.lim = 0))) := by
  refine gives mix t39 rfl rfl (ε := [pt b]) ⟨⟨_, rfl⟩, trivial⟩ (den_split_false rfl ?_)
  exact den_ldp [.int .i64 e.lim] _ ⟨⟨_, rfl⟩, trivial⟩ (cellk _ 0 _ rfl) (fun w1 h1 => (h.same h1.base).blk.pts) (fun _ _ => by simp [BlkIn]) fun w1 h1 => den_norm (by simp only [List.cons_append, List.nil_append]; rfl) (den_leaf rfl)
theorem c39n (w : World) : Gives Try.prog 39 [.pointer none] w (.bool true) := by
  exact gives mix t39 rfl rfl (ε := [.pointer none]) ⟨⟨_, rfl⟩, trivial⟩ (den_split_true rfl (den_leaf rfl))

theorem c17 (lim : Int) (w : World) : GivesR Try.prog 17 [.int .i64 lim] w (fun v w' => ((lim < 1 ∨ 16 < lim) ∧ v = .tuple #[.pointer none, .int .i64 2]) ∨ ((1 ≤ lim ∧ lim ≤ 16) ∧ ∃ b m, v = .tuple #[pt b, .int .i64 0] ∧ EvAt w' b m (.slice none 0 0) (.slice none 0 0) ⟨lim, 0, [], [], fun _ => none⟩ ∧ w.heap.size ≤ b ∧ w.heap.size ≤ m)) := by
  refine givesR mix t17 rfl rfl (ε := [.int .i64 lim]) ⟨⟨_, rfl⟩, trivial⟩ (den_splitLt (fun h1 => ?_) (fun h1 => den_splitLt (fun h2 => ?_) (fun h2 => ?_)))
  · have h1' : lim < 1 := h1
    exact den_leafR _ rfl fun w1 _ => .inl ⟨.inl h1', rfl⟩
  · have h2' : 16 < lim := h2
    exact den_leafR _ rfl fun w1 _ => .inl ⟨.inr h2', rfl⟩
  · have h1' : 1 ≤ lim := h1
    have h2' : lim ≤ 16 := h2
    refine den_makeMap (ky := .u8) (vy := .u8) (fun v => rfl) (fun w1 m w2 k1 hm hM s12 => den_norm (by simp only [List.cons_append, List.nil_append]; rfl) (den_blk fun b kb _ kW => den_norm (by simp only [List.cons_append, List.nil_append]; rfl) ?_))
    have z1 : w.heap.size ≤ w1.heap.size := k1.base.size
    have zb : w.heap.size ≤ b := kW
    refine den_leafR _ rfl fun w3 h3 => .inr ⟨⟨h1', h2'⟩, b, m, by simp [SV.den, denL, IE.den, BE.den, nth, vint, vbool, vaddr, addO, addr_add], ?_, zb, by omega⟩
    have hb : w2.heap.size ≤ b := kb
    have := hM.lt
    exact ⟨h3.facts.1, given_nil, given_nil, hM.same (shown_same h3), (fun ad had => by cases had), (fun ad had => by cases had)⟩

/-- the status of a request -/
def reqC (e : Ev) (id : Int) : Int := if e.R.any (fun x => decide (id = x)) then 3 else if (e.R.length : Int) = e.lim then 261 else 0
def reqE (e : Ev) (id : Int) : Ev := if reqC e id = 0 then { e with R := e.R ++ [id] } else e
theorem c40 (c : Int) (hc : c = 6 ∨ c = 3 ∨ c = 261) (ne : Bool) (w : World) : Gives Try.prog 40 [.int .u16 c, .bool ne] w (stV (c / 256) (c % 256) false ne) := by
  refine gives mix t40 rfl rfl (ε := [.int .u16 c, .bool ne]) ⟨⟨_, rfl⟩, ⟨_, rfl⟩, trivial⟩ (den_blk fun b _ _ _ => den_norm (by simp only [List.cons_append, List.nil_append]; rfl) (den_leaf ?_))
  rcases hc with rfl | rfl | rfl
  · show [Value.agg #[.int .u8 (IntKind.u8.wrap (bitv .and .u16 ((6 : Int).fdiv (2 ^ (Min.min (8 : Int).toNat 16))) 7)), .int .u8 (IntKind.u8.wrap 6), .bool false, .bool ne]] = _
    rw [show IntKind.u8.wrap (bitv .and .u16 ((6 : Int).fdiv (2 ^ (Min.min (8 : Int).toNat 16))) 7) = 0 by decide +kernel, show IntKind.u8.wrap 6 = 6 by decide +kernel]
    rfl
  · show [Value.agg #[.int .u8 (IntKind.u8.wrap (bitv .and .u16 ((3 : Int).fdiv (2 ^ (Min.min (8 : Int).toNat 16))) 7)), .int .u8 (IntKind.u8.wrap 3), .bool false, .bool ne]] = _
    rw [show IntKind.u8.wrap (bitv .and .u16 ((3 : Int).fdiv (2 ^ (Min.min (8 : Int).toNat 16))) 7) = 0 by decide +kernel, show IntKind.u8.wrap 3 = 3 by decide +kernel]
    rfl
  · show [Value.agg #[.int .u8 (IntKind.u8.wrap (bitv .and .u16 ((261 : Int).fdiv (2 ^ (Min.min (8 : Int).toNat 16))) 7)), .int .u8 (IntKind.u8.wrap 261), .bool false, .bool ne]] = _
    rw [show IntKind.u8.wrap (bitv .and .u16 ((261 : Int).fdiv (2 ^ (Min.min (8 : Int).toNat 16))) 7) = 1 by decide +kernel, show IntKind.u8.wrap 261 = 5 by decide +kernel]
    rfl
theorem c25 (b m : Nat) (s1 s2 : Value) (e : Ev) (w : World) (h : EvAt w b m s1 s2 e) (hl : e.lim ≠ 0) (hm : e.R.length ≤ 60000000000) : GivesR Try.prog 25 [pt b] w (fun v w' => Mine hE 37 w' v e.R ∧ ∀ g, v.ownBlock = some g → w.heap.size ≤ g) := by
  obtain ⟨a, c, rfl⟩ := h.r.1.slice
  refine givesR mix t25 rfl rfl (ε := [pt b]) ⟨⟨_, rfl⟩, trivial⟩ ?_
  refine den_call_bool (b := decide (e.lim = 0)) (fun w1 h1 => c39 b m _ s2 e w1 (h.same h1.base)) rfl (fun w1 w2 h1 h2 => den_norm (by simp only [List.cons_append, List.nil_append]; rfl) (den_split_false (by simp [BE.den, nth, vbool, hl]) ?_))
  refine den_notnil (i := 0) h.blk.pts ?_
  refine den_ldp [.slice a e.R.length c] _ ⟨⟨_, _, _, rfl⟩, trivial⟩ (cellk _ 2 _ rfl) (fun w3 h3 => (h.same h3.base).blk.pts) (fun _ _ => by simp [BlkIn]) fun w3 h3 => den_norm (by simp only [List.cons_append, List.nil_append]; rfl) ?_
  refine den_callR (fun w1 l w2 => ∃ v, l = [v] ∧ Mine hE 37 w2 v e.R ∧ ∀ g, v.ownBlock = some g → w1.heap.size ≤ g) (fun w4 h4 => ?_) (fun w4 l w5 h4 hfl hR k45 => ?_)
  · refine (c42 _ e.R w4 (h.same h4.base).r.1 hm).mono fun v w' ⟨q1, q2, _⟩ => ?_
    obtain ⟨va, vc, hv⟩ := q1.slice
    exact ⟨[v], ⟨⟨_, _, _, hv⟩, trivial⟩, rfl, v, rfl, q1, q2⟩
  obtain ⟨v, rfl, hM, hlo⟩ := hR
  have z4 : w.heap.size ≤ w4.heap.size := h4.base.size
  refine den_norm (by simp only [List.cons_append, List.nil_append]; rfl) ?_
  exact den_leafR _ rfl fun w6 h6 => ⟨hM.same (shown_same h6), fun g hg => Nat.le_trans z4 (hlo g hg)⟩
theorem reqC_cases (e : Ev) (id : Int) : reqC e id = 3 ∨ reqC e id = 261 ∨ reqC e id = 0 := by
  unfold reqC
  split
  · exact .inl rfl
  · split
    · exact .inr (.inl rfl)
    · exact .inr (.inr rfl)
/-- a new list of requests is stored -/
theorem EvAt.reqs {w w' : World} {b m : Nat} {s1 s2 s1' : Value} {e : Ev} {R' : List Int} (h : EvAt w b m s1 s2 e) (hk : Kept (fun x => x = b) w w') (hb : HasBlk w' (pt b) [.int .i64 e.lim, .int .u32 e.cfg, s1', s2, .map (some m)]) (hr : Given hE w' s1' R') (hne : ∀ ad, vaddr s1' = some ad → ad.block ≠ b ∧ ad.block ≠ m) :
    EvAt w' b m s1' s2 { e with R := R' } :=
  ⟨hb, hr, h.l.kept hk fun ad had e => (h.ne2 ad had).1 e, h.map.kept hk fun e => h.ne e.symm, hne, h.ne2⟩
theorem c20 (b m : Nat) (s1 s2 : Value) (e : Ev) (id : Int) (w : World) (h : EvAt w b m s1 s2 e) (hl : e.lim ≠ 0) (hm : e.R.length ≤ 60000000) :
    Runs Try.prog 20 [pt b, .int .u16 id] w (fun x => x = b) (fun v w' => v = stV (reqC e id / 256) (reqC e id % 256) false false ∧ ∃ s1', EvAt w' b m s1' s2 (reqE e id) ∧ (s1' = s1 ∨ ∀ ad, vaddr s1' = some ad → w.heap.size ≤ ad.block)) := by
  obtain ⟨a, c, rfl⟩ := h.r.1.slice
  have hr := runs mix t20 rfl rfl (ε := [pt b, .int .u16 id]) (heap := []) (w := w) (M := fun x => x = b) (R := fun v w' => v = stV (reqC e id / 256) (reqC e id % 256) false false ∧ ∃ s1', EvAt w' b m s1' s2 (reqE e id) ∧ (s1' = .slice a e.R.length c ∨ ∀ ad, vaddr s1' = some ad → w.heap.size ≤ ad.block)) ⟨⟨_, rfl⟩, ⟨_, rfl⟩, trivial⟩ trivial (by simp [keys]) (by simp [keys]) (by simp [keys]) ?_
  · simpa [SV.den, denL, IE.den, BE.den, nth, vint, vbool, vaddr, addO, addr_add] using hr
  have lb := h.lt
  refine den_blk fun b2 k2 _ _ => den_norm (by simp only [List.cons_append, List.nil_append]; rfl) ?_
  have z2 : w.heap.size ≤ b2 := k2
  refine den_call_bool (b := decide (e.lim = 0)) (fun w1 h1 => c39 b m _ s2 e w1 (h.same (shown_same h1))) rfl (fun w1 w2 h1 h2 => den_norm (by simp only [List.cons_append, List.nil_append]; rfl) (den_split_false (by simp [BE.den, nth, vbool, hl]) ?_))
  have E2 := (h.same (shown_same h1)).same h2
  refine den_notnil (i := 0) h.blk.pts ?_
  refine den_ldp [.slice a e.R.length c] _ ⟨⟨_, _, _, rfl⟩, trivial⟩ (cellk _ 2 _ rfl) (fun w3 h3 => (E2.same (shown_same h3)).blk.pts) (fun _ _ => by simp [BlkIn]) fun w3 h3 => den_norm (by simp only [List.cons_append, List.nil_append]; rfl) ?_
  have E3 := E2.same (shown_same h3)
  refine den_call_bool (b := e.R.any fun x => decide (id = x)) (fun w4 h4 => c41 _ e.R id w4 (by omega) (E3.same (shown_same h4)).r.1) rfl (fun w4 w5 h4 h5 => den_norm (by simp only [List.cons_append, List.nil_append]; rfl) (den_split (fun hin => ?_) (fun hin => ?_)))
  · have hin' : e.R.any (fun x => decide (id = x)) = true := hin
    have E5 := (E3.same (shown_same h4)).same h5
    have e3 : reqC e id = 3 := by unfold reqC; rw [if_pos hin']
    refine den_call [.int .u8 0, .int .u8 3, .bool false, .bool false] ⟨⟨_, rfl⟩, ⟨_, rfl⟩, ⟨_, rfl⟩, ⟨_, rfl⟩, trivial⟩ rfl (fun w6 _ => c40 3 (by decide) false w6) (fun w6 w7 h6 h7 => den_norm (by simp only [List.cons_append, List.nil_append]; rfl) ?_)
    have same : reqE e id = e := by unfold reqE; rw [e3]; rfl
    refine den_leafA _ rfl fun w8 h8 => ⟨by rw [e3]; rfl, .slice a e.R.length c, ?_⟩
    rw [same]
    exact ⟨((E5.same (shown_same h6)).same h7).up h h8.kept fun x hx => by simp [BlkIn, nth, blkOf, vaddr] at hx; omega, .inl rfl⟩
  have hin' : e.R.any (fun x => decide (id = x)) = false := hin
  have E5 := (E3.same (shown_same h4)).same h5
  intro w6 h6
  have E6 := E5.same (shown_same h6)
  refine ⟨fun x => x = b2, fun x hx => by simp [BlkIn, nth, blkOf, vaddr] at hx; exact hx.symm, ?_⟩
  refine den_ldpD [.slice a e.R.length c] _ ⟨⟨_, _, _, rfl⟩, trivial⟩ (cellk _ 2 _ rfl) E6.blk.pts (fun x hx hx2 => by have e1 : b = x := Option.some.inj hx; omega) (den_norm (by simp only [List.cons_append, List.nil_append]; rfl) ?_)
  refine den_ldpD [.int .i64 e.lim] _ ⟨⟨_, rfl⟩, trivial⟩ (cellk _ 0 _ rfl) E6.blk.pts (fun x hx hx2 => by have e1 : b = x := Option.some.inj hx; omega) (den_norm (by simp only [List.cons_append, List.nil_append]; rfl) ?_)
  refine den_splitEq (fun hf => ?_) (fun hf => ?_)
  · have hf' : (e.R.length : Int) = e.lim := hf
    have e3 : reqC e id = 261 := by unfold reqC; rw [if_neg (by rw [hin']; decide), if_pos hf']
    have same : reqE e id = e := by unfold reqE; rw [e3]; rfl
    refine den_call [.int .u8 1, .int .u8 5, .bool false, .bool false] ⟨⟨_, rfl⟩, ⟨_, rfl⟩, ⟨_, rfl⟩, ⟨_, rfl⟩, trivial⟩ rfl (fun w7 _ => c40 261 (by decide) false w7) (fun w7 w8 h7 h8 => den_norm (by simp only [List.cons_append, List.nil_append]; rfl) ?_)
    refine den_leafA _ rfl fun w9 h9 => ⟨by rw [e3]; rfl, .slice a e.R.length c, ?_⟩
    rw [same]
    exact ⟨((E6.same (shown_same h7)).same h8).up h h9.kept fun x hx => by simp [BlkIn, nth, blkOf, vaddr] at hx; omega, .inl rfl⟩
  have hf' : (e.R.length : Int) ≠ e.lim := hf
  have e3 : reqC e id = 0 := by unfold reqC; rw [if_neg (by rw [hin']; decide), if_neg hf']
  have same : reqE e id = { e with R := e.R ++ [id] } := by unfold reqE; rw [if_pos e3]
  refine den_ldp [.slice a e.R.length c] _ ⟨⟨_, _, _, rfl⟩, trivial⟩ (cellk _ 2 _ rfl) (fun w7 h7 => (E6.same (shown_same h7)).blk.pts) (fun _ _ => by simp [BlkIn]) fun w7 h7 => den_norm (by simp only [List.cons_append, List.nil_append]; rfl) ?_
  have E7 := E6.same (shown_same h7)
  refine den_callR (fun w1 l w2 => ∃ v, l = [v] ∧ Mine hE 37 w2 v e.R ∧ ∀ g, v.ownBlock = some g → w1.heap.size ≤ g) (fun w8 h8 => ?_) (fun w8 l w9 h8 hfl hR k89 => ?_)
  · refine (c42 _ e.R w8 (E7.same (shown_same h8)).r.1 (by omega)).mono fun v w' ⟨q1, q2, _⟩ => ?_
    obtain ⟨va, vc, hv⟩ := q1.slice
    exact ⟨[v], ⟨⟨_, _, _, hv⟩, trivial⟩, rfl, v, rfl, q1, q2⟩
  obtain ⟨v, rfl, hM, hlo⟩ := hR
  have E9 := (E7.same (shown_same h8)).same k89
  have z8 : w.heap.size ≤ w8.heap.size := h8.base.size
  have l28 : b2 < w8.heap.size := h8.lt (i := 2) (by simp [keys]) rfl
  refine den_norm (by simp only [List.cons_append, List.nil_append]; rfl) (den_blk fun b10 k10 _ _ => den_norm (by simp only [List.cons_append, List.nil_append]; rfl) ?_)
  have z10 : w9.heap.size ≤ b10 := k10
  have z89 : w8.heap.size ≤ w9.heap.size := k89.size
  refine den_push (E := hE) (T := 37) rfl u35 i37 z37 s37 rfl (by decide) by37 h_one v e.R id rfl rfl rfl (by omega) (fun g hg _ => .inl (Nat.le_trans z8 (hlo g hg))) (by simp [keys]) (fun wa ha => hM.same (shown_same ha)) ?_ (fun hd => by cases hd) (fun _ => rfl) (fun wa v' wb ha hv' kab hfr hap => den_norm (by simp only [List.cons_append, List.nil_append]; rfl) ?_)
  · intro g hg _ hin2
    have q1 := hlo g hg
    have q2 := hM.lt hg
    simp [BlkIn, nth, blkOf, vaddr] at hin2
    omega
  have Ea := E9.same (shown_same ha)
  have Eb := Ea.up h kab fun x hx => Nat.le_trans z8 (hlo x hx.1)
  have fresh : ∀ g, v'.ownBlock = some g → w.heap.size ≤ g := fun g hg => by
    rcases hfr with ⟨e1, _⟩ | ⟨b', e1, hb', _⟩
    · rw [e1] at hg; exact Nat.le_trans z8 (hlo g hg)
    · rw [e1] at hg; cases hg
      have : w9.heap.size ≤ wa.heap.size := ha.kept.size
      omega
  refine den_storeP b 2 v' [v'] [.int .i64 e.lim, .int .u32 e.cfg, .slice a e.R.length c, s2, .map (some m)] (by kernel_rfl) rfl rfl (by obtain ⟨x1, x2, hv⟩ := hv'.slice; rw [hv]; rfl) rfl (by intro u hu; simp at hu; subst hu; obtain ⟨x1, x2, hv⟩ := hv'.slice; rw [hv]; rfl) (fun wc hc => (Eb.same (shown_same hc)).blk) (by simp) (fun wc hc => ⟨fun hd => (by cases hd), fun _ => rfl, fun hin2 => by simp [BlkIn, nth, blkOf, vaddr] at hin2; omega, fun hx => (by cases hx)⟩) (fun wc wd hc hB kcd => ?_)
  have hg' : Given hE wd v' (e.R ++ [id]) := ((hv'.same (shown_same hc)).kept kcd fun g hg hb => by have := fresh g hg; omega).given
  refine den_leafA _ rfl fun we he => ⟨by rw [e3]; rfl, v', ?_⟩
  rw [same]
  have Ed := (Eb.same (shown_same hc)).reqs kcd hB hg' fun ad had => by
    have q := fresh _ (hv'.own had)
    have := h.map.lt
    omega
  refine ⟨?_, .inr fun ad had => fresh _ (hv'.own had)⟩
  refine Ed.kept he.kept (fun hx => by simp [BlkIn, nth, blkOf, vaddr] at hx; omega) (fun hx => by have := h.map.lt; simp [BlkIn, nth, blkOf, vaddr] at hx; omega) (fun ad had hx => ?_) (fun ad had hx => by have := h.l.2.2.2 ad had; simp [BlkIn, nth, blkOf, vaddr] at hx; omega)
  have q1 := hv'.lt (hv'.own had)
  have q2 := hv'.own had
  rcases hfr with ⟨e1, _⟩ | ⟨b', e1, hb', _⟩
  · rw [e1] at q2
    have q3 := hlo _ q2
    simp [BlkIn, nth, blkOf, vaddr] at hx
    omega
  · rw [e1] at q2
    have q4 : b' = ad.block := Option.some.inj q2
    have : w9.heap.size ≤ wa.heap.size := ha.kept.size
    simp [BlkIn, nth, blkOf, vaddr] at hx
    omega
end Go.Proofs.Ytfjlnfgbfclgbaa
