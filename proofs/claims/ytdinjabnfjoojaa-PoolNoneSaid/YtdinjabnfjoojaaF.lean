/- What the specification's functions over pools return. No conditions beyond those that each theorem names. -/
import Derived.Test.YtdinjabnfjoojaaE
set_option maxRecDepth 100000
set_option maxHeartbeats 1000000
set_option linter.unusedVariables false
set_option linter.unusedSimpArgs false
namespace Go.Proofs.Ytdinjabnfjoojaa
open Go.Sx

theorem underlying37 : Try.prog.underlying 37 = some (.slice 77) := by kernel_rfl
theorem info77 : Try.prog.info? 77 = some Try.t77 := by kernel_rfl
theorem zero77 : Try.t77.zero = some z2 := by kernel_rfl
theorem bytes77 : Try.t77.bytes ≤ 1000 := by decide +kernel
/-- the slice is the old one, or one that was made since -/
def OldNew (w : World) (t t' : Value) : Prop := t' = t ∨ ∀ ad, vaddr t' = some ad → w.heap.size ≤ ad.block
theorem head1 {l : List Value} {v : Value} : ∀ (m : Nat) u, [v][m]? = some u → (v :: l)[0 + m]? = some u := fun m u hu => by cases m with | zero => exact hu | succ m => simp at hu
theorem head2 {l : List Value} {v v' : Value} : ∀ (m : Nat) u, [v][m]? = some u → (v' :: v :: l)[1 + m]? = some u := fun m u hu => by cases m with | zero => exact hu | succ m => simp at hu

theorem c53 (t : Value) (L : List Bk) (i : Nat) (y : Bk) (w : World) (ht : Given refE w t L) (hi : i < L.length) (hm : L.length ≤ 60000000000) :
    GivesR Try.prog 53 [t, .int .i64 i, .int .i64 y.st, .int .i64 y.er] w (fun v w' => Mine refE 77 w' v (L.set i y) ∧ ∀ g, v.ownBlock = some g → w.heap.size ≤ g) := by
  obtain ⟨a, cp, rfl⟩ := ht.1.slice
  have hx : L[i]? = some L[i] := by simp [hi]
  generalize L[i] = x at hx
  refine givesR mix t53 rfl rfl (ε := [.slice a L.length cp, .int .i64 i, .int .i64 y.st, .int .i64 y.er]) ⟨⟨_, _, _, rfl⟩, ⟨_, rfl⟩, ⟨_, rfl⟩, ⟨_, rfl⟩, trivial⟩ (den_blk fun b4 k4 _ k40 => den_norm (by simp only [List.cons_append, List.nil_append]; rfl) ?_)
  have z4 : w.heap.size ≤ b4 := k40
  refine den_appendL (E := refE) (T := 77) rfl underlying37 info77 zero77 (by kernel_rfl) (by kernel_rfl) (by decide) bytes77 oneR (.slice (some ⟨b4, 0, none⟩) 0 0) (.slice a L.length cp) [] L (by simp [SV.den, nth, vaddr, addO, addr_add]) rfl (fun n c e => ht.2.1 n c e) (by simp; omega) (fun g hg hc => by simp [vcap] at hc) (by simp [keys]) ?_ (fun g hg hc => by simp [vcap] at hc) (fun hd => by cases hd) (fun _ => rfl) ?_
  · intro w1 h1
    refine ⟨?_, ht.1.same h1.base⟩
    obtain ⟨b', ty, hb', hh⟩ := h1.facts.1
    cases hb'
    exact .inr ⟨rfl, b4, _, ty, rfl, hh⟩
  intro w1 s' w2 h1 ho hk hfr hap
  rw [List.nil_append] at ho
  have hown : ∀ g, s'.ownBlock = some g → w1.heap.size ≤ g := by
    intro g hg
    rcases hfr with ⟨_, e4⟩ | ⟨b', e3, hle, _⟩
    · have := ho.cap
      rw [e4] at this
      simp only [vcap] at this
      omega
    · rw [hg] at e3; cases e3; exact hle
  have z1 : w.heap.size ≤ w1.heap.size := h1.base.size
  have l4 := h1.lt (i := 4) (b := b4) (by simp [keys]) rfl
  refine den_norm (by simp only [List.cons_append, List.nil_append]; rfl) (den_obs (E := refE) (L := L) i ho.arr (by decide) rfl hi ?_)
  refine den_storeM (E := refE) (T := 77) s' L i x y (.agg #[.int .i64 y.st, .int .i64 y.er]) [.int .i64 y.st, .int .i64 y.er] (by kernel_rfl) rfl rfl rfl hx rfl rfl rfl (by intro u hu; simp at hu; rcases hu with rfl | rfl <;> rfl) (by simp [refE]) (by decide) rfl (fun w3 h3 => ho.same (shown_same h3)) (fun w3 h3 g hg => ?_) ⟨w2, ho⟩ (fun w3 w4 h3 hm hk => den_leafR _ rfl fun w5 h5 => ⟨hm.same (shown_same h5), fun g hg => ?_⟩)
  · have := hown g hg
    refine ⟨fun hd => (by cases hd), fun hlt => absurd (show g < w.heap.size from hlt) (by omega), fun hin => ?_, fun hx => (by cases hx)⟩
    simp [BlkIn, nth, blkOf, vaddr] at hin
    omega
  · have := hown g hg
    omega

theorem c52 (t : Value) (L : List Bk) (st : Int) (w : World) (ht : Arr refE w t L) (hm : L.length < 4611686018427387904) : Gives Try.prog 52 [t, .int .i64 st] w (.int .i64 (coldest st L)) := by
  obtain ⟨a, c, rfl⟩ := ht.slice
  refine gives mix t52 rfl rfl (ε := [.slice a L.length c, .int .i64 st]) ⟨⟨_, _, _, rfl⟩, ⟨_, rfl⟩, trivial⟩ ?_
  refine den_loop (fun ls _ => ∃ j : Nat, ls = [.int .i64 j, .int .i64 (bstN (isSt st) ltE L j)] ∧ j ≤ L.length) (fun ls _ => L.length - (vint (nth ls 0)).toNat) (fun w1 h1 => ⟨0, rfl, Nat.zero_le _⟩) ?_
  rintro w1 l w2 h1 hf ⟨j, rfl, hj⟩ hk hfa
  refine den_norm (by simp only [List.cons_append, List.nil_append]; rfl) (den_splitLt (fun h => ?_) (fun h => ?_))
  · have hlt' : j < L.length := by simpa [IE.den, nth, vint, vlen] using h
    have hx : L[j]? = some L[j] := by simp [hlt']
    generalize L[j] = x at hx
    have next : ∀ (k : Int), bstN (isSt st) ltE L (j + 1) = k → ∀ {ε : List Value} {t : List Nat} {fs : Facts} {G : Ctx} {wx ws : World} {X : Nat → Prop} {vs : List SV} {Λ : Nat → List Value → World → Prop}, denL ε vs = [.int .i64 ((j : Int) + 1), .int .i64 k] →
        (VC.leaf 1 vs t fs).den G (fun j' vs' w'' => if j' = 1 then (∃ j : Nat, vs' = [.int .i64 j, .int .i64 (bstN (isSt st) ltE L j)] ∧ j ≤ L.length) ∧ L.length - (vint (nth vs' 0)).toNat < L.length - (vint (nth [.int .i64 (j : Int), .int .i64 (bstN (isSt st) ltE L j)] 0)).toNat else Λ j' vs' w'') ε wx ws X := by
      intro k hk ε t fs G wx ws X vs Λ hv
      refine den_leaf' fun w _ => (if_pos rfl).mpr ⟨⟨j + 1, by rw [hv, hk]; simp, by omega⟩, ?_⟩
      rw [hv]
      simp only [nth, vint]
      omega
    have nb : ∀ {ε : List Value} (ad : Addr), vaddr (.slice a L.length c) = some ad → ¬ BlkIn ε [] ad.block := fun ad _ => by simp [BlkIn]
    refine den_start1 fun w3 h3 => ?_
    refine den_idxD (E := refE) (L := L) x j [.int .i64 x.st] rfl (by decide) rfl hx ⟨⟨_, rfl⟩, trivial⟩ head1 (ht.same h3.base) nb (den_norm (by simp only [List.cons_append, List.nil_append]; rfl) (den_splitEq (fun hst => den_splitLt (fun h7 => ?_) (fun h7 => ?_)) (fun hst => ?_)))
    · have hst' : isSt st x = true := by simpa [IE.den, nth, vint, isSt] using hst
      have h7' : bstN (isSt st) ltE L j < 0 := h7
      exact den_ob64 (by simp only [IE.den, nth, vint]; omega) (next _ (bstN_first hx hst' h7') rfl)
    · have hst' : isSt st x = true := by simpa [IE.den, nth, vint, isSt] using hst
      have h7' : 0 ≤ bstN (isSt st) ltE L j := h7
      rcases bstN_bounds (isSt st) ltE L j with h8 | ⟨i, y, hij, hi, hy, _⟩
      · omega
      refine den_idxD2 (E := refE) (L := L) x j [.int .i64 x.er] rfl (by decide) rfl hx ⟨⟨_, rfl⟩, trivial⟩ head2 (ht.same h3.base) nb (den_norm (by simp only [List.cons_append, List.nil_append]; rfl) ?_)
      refine den_idxD2 (E := refE) (L := L) y i [.int .i64 y.er] rfl (by decide) hi hy ⟨⟨_, rfl⟩, trivial⟩ head2 (ht.same h3.base) nb (den_norm (by simp only [List.cons_append, List.nil_append]; rfl) ?_)
      have hc := bstN_cmp hx hst' hi hy (lt := ltE)
      refine den_splitLt (fun h9 => ?_) (fun h9 => ?_)
      · have h9' : x.er < y.er := h9
        rw [if_pos (by simp [ltE, h9'])] at hc
        exact den_ob64 (by simp only [IE.den, nth, vint]; omega) (next _ hc rfl)
      · have h9' : y.er ≤ x.er := h9
        rw [if_neg (by simp [ltE]; omega), ← hi] at hc
        exact den_ob64 (by simp only [IE.den, nth, vint]; omega) (next _ hc rfl)
    · have hst' : isSt st x = false := by simpa [IE.den, nth, vint, isSt] using hst
      exact den_ob64 (by simp only [IE.den, nth, vint]; omega) (next _ (bstN_no hx hst') rfl)
  · have hge : L.length ≤ j := by simpa [IE.den, nth, vint, vlen] using h
    obtain rfl : j = L.length := by omega
    exact den_leaf' fun w3 h3 => (if_neg (by decide)).mpr ⟨rfl, h3.base⟩

/-- the pool's part and its new slice -/
def RefR (w : World) (t : Value) (L : List Bk) (vs : Value → Value) : Value → World → Prop := fun v w' => ∃ t', v = vs t' ∧ Given refE w' t' L ∧ OldNew w t t'
theorem mine_new {w0 w' : World} {t t' : Value} {L : List Bk} (h : Mine refE 77 w' t' L) (hg : ∀ g, t'.ownBlock = some g → w0.heap.size ≤ g) : OldNew w0 t t' := .inr fun ad had => hg _ (h.own had)

theorem c39 (t : Value) (L : List Bk) (w : World) (ht : Given refE w t L) (hok : OkL L) :
    GivesR Try.prog 39 [t] w (RefR w t (takL L) fun t' => .tuple #[t', .int .i64 (takI L), .int .i64 (takE L)]) := by
  obtain ⟨a, c, rfl⟩ := ht.1.slice
  have hlen := hok.len
  refine givesR mix t39 rfl rfl (ε := [.slice a L.length c]) ⟨⟨_, _, _, rfl⟩, trivial⟩ (den_call_int (x := coldest 1 L) (fun w1 h1 => c52 _ L 1 w1 (ht.1.same h1.base) (by omega)) rfl fun w1 w2 h1 h2 => den_norm (by simp only [List.cons_append, List.nil_append]; rfl) (den_splitLt (fun e => den_leafR _ rfl fun w3 h3 => ?_) (fun e => ?_)))
  · have e' : coldest 1 L < 0 := e
    rw [show takL L = L by simp [takL, e']]
    refine ⟨_, ?_, ht.same h3.base, .inl rfl⟩
    rw [show takI L = 0 by unfold takI; rw [if_pos e'], show takE L = 9 by unfold takE; rw [if_pos e']]
    rfl
  have e' : ¬ coldest 1 L < 0 := by have : 0 ≤ coldest 1 L := e; omega
  obtain ⟨j, x, hj, hx, _⟩ := coldest_some e'
  have hL : takL L = L.set j ⟨x.er, 2⟩ := by unfold takL; rw [if_neg e', hj, bkAt_some hx]; rfl
  rw [hL, show takI L = j by unfold takI; rw [if_neg e', hj], show takE L = 0 by unfold takE; rw [if_neg e'], hj]
  refine den_idx2 (E := refE) (L := L) x j [.int .i64 x.er] ht.1 rfl (by decide) rfl hx ⟨⟨_, rfl⟩, trivial⟩ head2 (fun w h => ht.1.same h.base) (fun _ _ => by simp [BlkIn]) (fun w3 h3 => den_norm (by simp only [List.cons_append, List.nil_append]; rfl) ?_)
  refine den_callR (fun w l w' => ∃ v, l = [v] ∧ Mine refE 77 w' v (L.set j ⟨x.er, 2⟩) ∧ ∀ g, v.ownBlock = some g → w.heap.size ≤ g) (fun w4 h4 => ?_) (fun w4 l w5 h4 hf hR hs45 => ?_)
  · refine (c53 _ L j ⟨x.er, 2⟩ w4 (ht.same h4.base) (List.getElem?_eq_some_iff.1 hx).1 (by omega)).mono fun v w' hv => ?_
    obtain ⟨av, cv, hv'⟩ := hv.1.slice
    exact ⟨[v], ⟨⟨_, _, _, hv'⟩, trivial⟩, rfl, v, rfl, hv⟩
  obtain ⟨v, rfl, hv, hg⟩ := hR
  have z4 : w.heap.size ≤ w4.heap.size := h4.base.size
  exact den_norm (by simp only [List.cons_append, List.nil_append]; rfl) (den_leafR _ rfl fun w6 h6 => ⟨v, rfl, (hv.same (shown_same h6)).given, mine_new hv fun g hg' => by have := hg g hg'; omega⟩)

theorem c40 (t : Value) (L : List Bk) (i : Int) (w : World) (ht : Given refE w t L) (hok : OkL L) :
    GivesR Try.prog 40 [t, .int .i64 i] w (RefR w t (turnL L i (isSt 2) 3) fun t' => .tuple #[t', .int .i64 (chk L i (isSt 2))]) := by
  obtain ⟨a, c, rfl⟩ := ht.1.slice
  have hlen := hok.len
  have bad : ∀ {e : Int} {w' : World}, Same w w' → chk L i (isSt 2) = e → e ≠ 0 → RefR w (.slice a L.length c) (turnL L i (isSt 2) 3) (fun t' => .tuple #[t', .int .i64 (chk L i (isSt 2))]) (.tuple #[.slice a L.length c, .int .i64 e]) w' := fun hs he hne => by
    rw [show turnL L i (isSt 2) 3 = L by simp [turnL, he, hne], he]
    exact ⟨_, rfl, ht.same hs, .inl rfl⟩
  refine givesR mix t40 rfl rfl (ε := [.slice a L.length c, .int .i64 i]) ⟨⟨_, _, _, rfl⟩, ⟨_, rfl⟩, trivial⟩ (den_splitLt (fun e1 => den_leafR _ rfl fun w1 h1 => bad h1.base ?_ (by simp [IE.den])) (fun e1 => den_splitLe (fun e2 => den_leafR _ rfl fun w1 h1 => bad h1.base ?_ (by simp [IE.den])) (fun e2 => ?_)))
  · have e1' : i < 0 := e1
    have : hasB L i = false := by simp [hasB]; intro; omega
    simp [chk, this, IE.den]
  · have e2' : (L.length : Int) ≤ i := e2
    have : hasB L i = false := by simp [hasB]; intro; omega
    simp [chk, this, IE.den]
  have e1' : 0 ≤ i := e1
  have e2' : i < L.length := e2
  have hh : hasB L i = true := by simp [hasB, e1', e2']
  obtain ⟨j, x, rfl, hx⟩ := hasB_some hh
  have hbk := bkAt_some hx
  have hxo := hok.er x (List.mem_of_getElem? hx)
  refine den_idx2 (E := refE) (L := L) x j [.int .i64 x.st] ht.1 rfl (by decide) rfl hx ⟨⟨_, rfl⟩, trivial⟩ head1 (fun w h => ht.1.same h.base) (fun _ _ => by simp [BlkIn]) (fun w2 h2 => den_norm (by simp only [List.cons_append, List.nil_append]; rfl) ?_)
  refine den_splitNot (fun h3 => den_leafR _ rfl fun w3 h4 => bad h4.base ?_ (by simp [IE.den])) (fun h3 => ?_)
  · have h3' : isSt 2 x = false := by simpa [BE.den, IE.den, nth, vint, isSt] using h3
    simp [chk, hh, hbk, h3', IE.den]
  have h3' : isSt 2 x = true := by simpa [BE.den, IE.den, nth, vint, isSt] using h3
  have he : chk L j (isSt 2) = 0 := by simp [chk, hh, hbk, h3']
  rw [show turnL L j (isSt 2) 3 = L.set j ⟨x.er, 3⟩ by simp [turnL, he, hbk], he]
  refine den_obLe (show (0 : Int) ≤ (j : Int) by omega) (den_obLt (show (j : Int) < (L.length : Int) by omega) ?_)
  refine den_ldi (E := refE) (L := L) x j [.int .i64 x.er] rfl (by decide) rfl hx ⟨⟨_, rfl⟩, trivial⟩ head2 (fun w h => ht.1.same h.base) (fun _ _ => by simp [BlkIn]) (fun w3 h3 => den_norm (by simp only [List.cons_append, List.nil_append]; rfl) ?_)
  refine den_callR (fun w l w' => ∃ v, l = [v] ∧ Mine refE 77 w' v (L.set j ⟨x.er, 3⟩) ∧ ∀ g, v.ownBlock = some g → w.heap.size ≤ g) (fun w4 h4 => ?_) (fun w4 l w5 h4 hf hR hs45 => ?_)
  · refine (c53 _ L j ⟨x.er, 3⟩ w4 (ht.same h4.base) (List.getElem?_eq_some_iff.1 hx).1 (by omega)).mono fun v w' hv => ?_
    obtain ⟨av, cv, hv'⟩ := hv.1.slice
    exact ⟨[v], ⟨⟨_, _, _, hv'⟩, trivial⟩, rfl, v, rfl, hv⟩
  obtain ⟨v, rfl, hv, hg⟩ := hR
  have z4 : w.heap.size ≤ w4.heap.size := h4.base.size
  exact den_norm (by simp only [List.cons_append, List.nil_append]; rfl) (den_leafR _ rfl fun w6 h6 => ⟨v, rfl, (hv.same (shown_same h6)).given, mine_new hv fun g hg' => by have := hg g hg'; omega⟩)

theorem c42 (t : Value) (L : List Bk) (i : Int) (w : World) (ht : Given refE w t L) (hok : OkL L) :
    GivesR Try.prog 42 [t, .int .i64 i] w (RefR w t (turnL L i good 4) fun t' => .tuple #[t', .int .i64 (chk L i (good))]) := by
  obtain ⟨a, c, rfl⟩ := ht.1.slice
  have hlen := hok.len
  have bad : ∀ {e : Int} {w' : World}, Same w w' → chk L i (good) = e → e ≠ 0 → RefR w (.slice a L.length c) (turnL L i good 4) (fun t' => .tuple #[t', .int .i64 (chk L i (good))]) (.tuple #[.slice a L.length c, .int .i64 e]) w' := fun hs he hne => by
    rw [show turnL L i good 4 = L by simp [turnL, he, hne], he]
    exact ⟨_, rfl, ht.same hs, .inl rfl⟩
  refine givesR mix t42 rfl rfl (ε := [.slice a L.length c, .int .i64 i]) ⟨⟨_, _, _, rfl⟩, ⟨_, rfl⟩, trivial⟩ (den_splitLt (fun e1 => den_leafR _ rfl fun w1 h1 => bad h1.base ?_ (by simp [IE.den])) (fun e1 => den_splitLe (fun e2 => den_leafR _ rfl fun w1 h1 => bad h1.base ?_ (by simp [IE.den])) (fun e2 => ?_)))
  · have e1' : i < 0 := e1
    have : hasB L i = false := by simp [hasB]; intro; omega
    simp [chk, this, IE.den]
  · have e2' : (L.length : Int) ≤ i := e2
    have : hasB L i = false := by simp [hasB]; intro; omega
    simp [chk, this, IE.den]
  have e1' : 0 ≤ i := e1
  have e2' : i < L.length := e2
  have hh : hasB L i = true := by simp [hasB, e1', e2']
  obtain ⟨j, x, rfl, hx⟩ := hasB_some hh
  have hbk := bkAt_some hx
  have hxo := hok.er x (List.mem_of_getElem? hx)
  refine den_idx2 (E := refE) (L := L) x j [.int .i64 x.st] ht.1 rfl (by decide) rfl hx ⟨⟨_, rfl⟩, trivial⟩ head1 (fun w h => ht.1.same h.base) (fun _ _ => by simp [BlkIn]) (fun w2 h2 => den_norm (by simp only [List.cons_append, List.nil_append]; rfl) ?_)
  refine den_splitEq (fun h3 => den_leafR _ rfl fun w3 h4 => bad h4.base ?_ (by simp [IE.den])) (fun h3 => ?_)
  · have h3' : good x = false := by simpa [IE.den, nth, vint, good] using h3
    simp [chk, hh, hbk, h3', IE.den]
  have h3' : good x = true := by simpa [IE.den, nth, vint, good] using h3
  have he : chk L j good = 0 := by simp [chk, hh, hbk, h3']
  rw [show turnL L j good 4 = L.set j ⟨x.er, 4⟩ by simp [turnL, he, hbk], he]
  refine den_obLe (show (0 : Int) ≤ (j : Int) by omega) (den_obLt (show (j : Int) < (L.length : Int) by omega) ?_)
  refine den_ldi (E := refE) (L := L) x j [.int .i64 x.er] rfl (by decide) rfl hx ⟨⟨_, rfl⟩, trivial⟩ head2 (fun w h => ht.1.same h.base) (fun _ _ => by simp [BlkIn]) (fun w3 h3 => den_norm (by simp only [List.cons_append, List.nil_append]; rfl) ?_)
  refine den_callR (fun w l w' => ∃ v, l = [v] ∧ Mine refE 77 w' v (L.set j ⟨x.er, 4⟩) ∧ ∀ g, v.ownBlock = some g → w.heap.size ≤ g) (fun w4 h4 => ?_) (fun w4 l w5 h4 hf hR hs45 => ?_)
  · refine (c53 _ L j ⟨x.er, 4⟩ w4 (ht.same h4.base) (List.getElem?_eq_some_iff.1 hx).1 (by omega)).mono fun v w' hv => ?_
    obtain ⟨av, cv, hv'⟩ := hv.1.slice
    exact ⟨[v], ⟨⟨_, _, _, hv'⟩, trivial⟩, rfl, v, rfl, hv⟩
  obtain ⟨v, rfl, hv, hg⟩ := hR
  have z4 : w.heap.size ≤ w4.heap.size := h4.base.size
  exact den_norm (by simp only [List.cons_append, List.nil_append]; rfl) (den_leafR _ rfl fun w6 h6 => ⟨v, rfl, (hv.same (shown_same h6)).given, mine_new hv fun g hg' => by have := hg g hg'; omega⟩)

theorem c41 (t : Value) (L : List Bk) (i : Int) (w : World) (ht : Given refE w t L) (hok : OkL L) :
    GivesR Try.prog 41 [t, .int .i64 i] w (RefR w t (relL L i) fun t' => .tuple #[t', .int .i64 (chk L i (rels))]) := by
  obtain ⟨a, c, rfl⟩ := ht.1.slice
  have hlen := hok.len
  have bad : ∀ {e : Int} {w' : World}, Same w w' → chk L i (rels) = e → e ≠ 0 → RefR w (.slice a L.length c) (relL L i) (fun t' => .tuple #[t', .int .i64 (chk L i (rels))]) (.tuple #[.slice a L.length c, .int .i64 e]) w' := fun hs he hne => by
    rw [show relL L i = L by simp [relL, he, hne], he]
    exact ⟨_, rfl, ht.same hs, .inl rfl⟩
  refine givesR mix t41 rfl rfl (ε := [.slice a L.length c, .int .i64 i]) ⟨⟨_, _, _, rfl⟩, ⟨_, rfl⟩, trivial⟩ (den_splitLt (fun e1 => den_leafR _ rfl fun w1 h1 => bad h1.base ?_ (by simp [IE.den])) (fun e1 => den_splitLe (fun e2 => den_leafR _ rfl fun w1 h1 => bad h1.base ?_ (by simp [IE.den])) (fun e2 => ?_)))
  · have e1' : i < 0 := e1
    have : hasB L i = false := by simp [hasB]; intro; omega
    simp [chk, this, IE.den]
  · have e2' : (L.length : Int) ≤ i := e2
    have : hasB L i = false := by simp [hasB]; intro; omega
    simp [chk, this, IE.den]
  have e1' : 0 ≤ i := e1
  have e2' : i < L.length := e2
  have hh : hasB L i = true := by simp [hasB, e1', e2']
  obtain ⟨j, x, rfl, hx⟩ := hasB_some hh
  have hbk := bkAt_some hx
  have hxo := hok.er x (List.mem_of_getElem? hx)
  refine den_idx2 (E := refE) (L := L) x j [.int .i64 x.st] ht.1 rfl (by decide) rfl hx ⟨⟨_, rfl⟩, trivial⟩ head1 (fun w h => ht.1.same h.base) (fun _ _ => by simp [BlkIn]) (fun w2 h2 => den_norm (by simp only [List.cons_append, List.nil_append]; rfl) ?_)
  have go : (x.st = 2 ∨ x.st = 3) → x.er ≠ 1099511627776 → chk L j rels = 0 := fun h1 h2 => by
    have : rels x = true := by
      have : x.er < 1099511627776 := by omega
      rcases h1 with h1 | h1 <;> simp [rels, h1, this]
    simp [chk, hh, hbk, this]
  have no : (¬ (x.st = 2 ∨ x.st = 3) ∨ x.er = 1099511627776) → chk L j rels = 8 := fun h1 => by
    have : rels x = false := by
      rcases h1 with h1 | h1
      · have h2 : x.st ≠ 2 := fun e => h1 (.inl e)
        have h3 : x.st ≠ 3 := fun e => h1 (.inr e)
        simp [rels, h2, h3]
      · simp [rels, h1]
    simp [chk, hh, hbk, this]
  have hL : chk L j rels = 0 → relL L j = L.set j ⟨x.er + 1, 1⟩ := fun he => by simp [relL, he, hbk]
  refine den_splitNot (fun h3 => ?_) (fun h3 => ?_)
  · have h3' : ¬ x.st = 2 := by simpa [BE.den, IE.den, nth, vint] using h3
    refine den_obLe (show (0 : Int) ≤ (j : Int) by omega) (den_obLt (show (j : Int) < (L.length : Int) by omega) ?_)
    refine den_ldi (E := refE) (L := L) x j [.int .i64 x.st] rfl (by decide) rfl hx ⟨⟨_, rfl⟩, trivial⟩ head1 (fun w h => ht.1.same h.base) (fun _ _ => by simp [BlkIn]) (fun w3 h3 => den_norm (by simp only [List.cons_append, List.nil_append]; rfl) ?_)
    refine den_splitNot (fun h4 => den_leafR _ rfl fun w3 h5 => bad h5.base (no (.inl ?_)) (by simp [IE.den])) (fun h4 => ?_)
    · have h4' : ¬ x.st = 3 := by simpa [BE.den, IE.den, nth, vint] using h4
      omega
    have h4' : x.st = 3 := by simpa [BE.den, IE.den, nth, vint] using h4
    refine den_obLe (show (0 : Int) ≤ (j : Int) by omega) (den_obLt (show (j : Int) < (L.length : Int) by omega) ?_)
    refine den_ldi (E := refE) (L := L) x j [.int .i64 x.er] rfl (by decide) rfl hx ⟨⟨_, rfl⟩, trivial⟩ head2 (fun w h => ht.1.same h.base) (fun _ _ => by simp [BlkIn]) (fun w3 h3 => den_norm (by simp only [List.cons_append, List.nil_append]; rfl) ?_)
    refine den_splitEq (fun h5 => den_leafR _ rfl fun w3 h6 => bad h6.base (no (.inr h5)) (by simp [IE.den])) (fun h5 => ?_)
    have he := go (.inr h4') h5
    rw [hL he, he]
    refine den_obLe (show (0 : Int) ≤ (j : Int) by omega) (den_obLt (show (j : Int) < (L.length : Int) by omega) ?_)
    refine den_ldi (E := refE) (L := L) x j [.int .i64 x.er] rfl (by decide) rfl hx ⟨⟨_, rfl⟩, trivial⟩ head2 (fun w h => ht.1.same h.base) (fun _ _ => by simp [BlkIn]) (fun w3 h3 => den_norm (by simp only [List.cons_append, List.nil_append]; rfl) (den_ob64 (by simp only [IE.den, nth, vint]; omega) ?_))
    refine den_callR (fun w l w' => ∃ v, l = [v] ∧ Mine refE 77 w' v (L.set j ⟨x.er + 1, 1⟩) ∧ ∀ g, v.ownBlock = some g → w.heap.size ≤ g) (fun w4 h4 => ?_) (fun w4 l w5 h4 hf hR hs45 => ?_)
    · refine (c53 _ L j ⟨x.er + 1, 1⟩ w4 (ht.same h4.base) (List.getElem?_eq_some_iff.1 hx).1 (by omega)).mono fun v w' hv => ?_
      obtain ⟨av, cv, hv'⟩ := hv.1.slice
      exact ⟨[v], ⟨⟨_, _, _, hv'⟩, trivial⟩, rfl, v, rfl, hv⟩
    obtain ⟨v, rfl, hv, hg⟩ := hR
    have z4 : w.heap.size ≤ w4.heap.size := h4.base.size
    exact den_norm (by simp only [List.cons_append, List.nil_append]; rfl) (den_leafR _ rfl fun w6 h6 => ⟨v, rfl, (hv.same (shown_same h6)).given, mine_new hv fun g hg' => by have := hg g hg'; omega⟩)
  · have h3' : x.st = 2 := by simpa [BE.den, IE.den, nth, vint] using h3
    refine den_obLe (show (0 : Int) ≤ (j : Int) by omega) (den_obLt (show (j : Int) < (L.length : Int) by omega) ?_)
    refine den_ldi (E := refE) (L := L) x j [.int .i64 x.er] rfl (by decide) rfl hx ⟨⟨_, rfl⟩, trivial⟩ head2 (fun w h => ht.1.same h.base) (fun _ _ => by simp [BlkIn]) (fun w3 h3 => den_norm (by simp only [List.cons_append, List.nil_append]; rfl) ?_)
    refine den_splitEq (fun h5 => den_leafR _ rfl fun w3 h6 => bad h6.base (no (.inr h5)) (by simp [IE.den])) (fun h5 => ?_)
    have he := go (.inl h3') h5
    rw [hL he, he]
    refine den_obLe (show (0 : Int) ≤ (j : Int) by omega) (den_obLt (show (j : Int) < (L.length : Int) by omega) ?_)
    refine den_ldi (E := refE) (L := L) x j [.int .i64 x.er] rfl (by decide) rfl hx ⟨⟨_, rfl⟩, trivial⟩ head2 (fun w h => ht.1.same h.base) (fun _ _ => by simp [BlkIn]) (fun w3 h3 => den_norm (by simp only [List.cons_append, List.nil_append]; rfl) (den_ob64 (by simp only [IE.den, nth, vint]; omega) ?_))
    refine den_callR (fun w l w' => ∃ v, l = [v] ∧ Mine refE 77 w' v (L.set j ⟨x.er + 1, 1⟩) ∧ ∀ g, v.ownBlock = some g → w.heap.size ≤ g) (fun w4 h4 => ?_) (fun w4 l w5 h4 hf hR hs45 => ?_)
    · refine (c53 _ L j ⟨x.er + 1, 1⟩ w4 (ht.same h4.base) (List.getElem?_eq_some_iff.1 hx).1 (by omega)).mono fun v w' hv => ?_
      obtain ⟨av, cv, hv'⟩ := hv.1.slice
      exact ⟨[v], ⟨⟨_, _, _, hv'⟩, trivial⟩, rfl, v, rfl, hv⟩
    obtain ⟨v, rfl, hv, hg⟩ := hR
    have z4 : w.heap.size ≤ w4.heap.size := h4.base.size
    exact den_norm (by simp only [List.cons_append, List.nil_append]; rfl) (den_leafR _ rfl fun w6 h6 => ⟨v, rfl, (hv.same (shown_same h6)).given, mine_new hv fun g hg' => by have := hg g hg'; omega⟩)

theorem c43 (t : Value) (L : List Bk) (i st er : Int) (w : World) (ht : Given refE w t L) (hok : OkL L) :
    GivesR Try.prog 43 [t, .int .i64 i, .int .i64 st, .int .i64 er] w (RefR w t (setL L i st er) fun t' => .tuple #[t', .int .i64 (setE L i st er)]) := by
  obtain ⟨a, c, rfl⟩ := ht.1.slice
  have hlen := hok.len
  have bad : ∀ {e : Int} {w' : World}, Same w w' → setE L i st er = e → e ≠ 0 → RefR w (.slice a L.length c) (setL L i st er) (fun t' => .tuple #[t', .int .i64 (setE L i st er)]) (.tuple #[.slice a L.length c, .int .i64 e]) w' := fun hs he hne => by
    rw [show setL L i st er = L by simp [setL, he, hne], he]
    exact ⟨_, rfl, ht.same hs, .inl rfl⟩
  refine givesR mix t43 rfl rfl (ε := [.slice a L.length c, .int .i64 i, .int .i64 st, .int .i64 er]) ⟨⟨_, _, _, rfl⟩, ⟨_, rfl⟩, ⟨_, rfl⟩, ⟨_, rfl⟩, trivial⟩ ?_
  refine den_splitLt (fun e => den_leafR _ rfl fun w1 h1 => bad h1.base ?_ (by simp [IE.den])) (fun e1 => ?_)
  · have e' : ¬ 1 ≤ st := by have : st < 1 := e; omega
    simp [setE, e', IE.den]
  refine den_splitLt (fun e => den_leafR _ rfl fun w1 h1 => bad h1.base ?_ (by simp [IE.den])) (fun e2 => ?_)
  · have e' : ¬ st ≤ 4 := by have : 4 < st := e; omega
    simp [setE, e', IE.den]
  refine den_splitLt (fun e => den_leafR _ rfl fun w1 h1 => bad h1.base ?_ (by simp [IE.den])) (fun e3 => ?_)
  · have e' : ¬ 0 ≤ er := by have : er < 0 := e; omega
    simp [setE, cnt, e', IE.den]
  refine den_splitLt (fun e => den_leafR _ rfl fun w1 h1 => bad h1.base ?_ (by simp [IE.den])) (fun e4 => ?_)
  · have e' : ¬ er ≤ 1099511627776 := by have : 1099511627776 < er := e; omega
    simp [setE, cnt, e', IE.den]
  have e1' : 1 ≤ st := e1
  have e2' : st ≤ 4 := e2
  have e3' : 0 ≤ er := e3
  have e4' : er ≤ 1099511627776 := e4
  refine den_splitLt (fun e => den_leafR _ rfl fun w1 h1 => bad h1.base ?_ (by simp [IE.den])) (fun e5 => den_splitLe (fun e => den_leafR _ rfl fun w1 h1 => bad h1.base ?_ (by simp [IE.den])) (fun e6 => ?_))
  · have e' : i < 0 := e
    have : hasB L i = false := by simp [hasB]; intro; omega
    simp [setE, cnt, e1', e2', e3', e4', this, IE.den]
  · have e' : (L.length : Int) ≤ i := e
    have : hasB L i = false := by simp [hasB]; intro; omega
    simp [setE, cnt, e1', e2', e3', e4', this, IE.den]
  have e5' : 0 ≤ i := e5
  have e6' : i < L.length := e6
  have hh : hasB L i = true := by simp [hasB, e5', e6']
  obtain ⟨j, x, rfl, hx⟩ := hasB_some hh
  have he : setE L j st er = 0 := by simp [setE, cnt, e1', e2', e3', e4', hh]
  rw [show setL L j st er = L.set j ⟨er, st⟩ by simp [setL, he], he]
  refine den_callR (fun w l w' => ∃ v, l = [v] ∧ Mine refE 77 w' v (L.set j ⟨er, st⟩) ∧ ∀ g, v.ownBlock = some g → w.heap.size ≤ g) (fun w4 h4 => ?_) (fun w4 l w5 h4 hf hR hs45 => ?_)
  · refine (c53 _ L j ⟨er, st⟩ w4 (ht.same h4.base) (List.getElem?_eq_some_iff.1 hx).1 (by omega)).mono fun v w' hv => ?_
    obtain ⟨av, cv, hv'⟩ := hv.1.slice
    exact ⟨[v], ⟨⟨_, _, _, hv'⟩, trivial⟩, rfl, v, rfl, hv⟩
  obtain ⟨v, rfl, hv, hg⟩ := hR
  have z4 : w.heap.size ≤ w4.heap.size := h4.base.size
  exact den_norm (by simp only [List.cons_append, List.nil_append]; rfl) (den_leafR _ rfl fun w6 h6 => ⟨v, rfl, (hv.same (shown_same h6)).given, mine_new hv fun g hg' => by have := hg g hg'; omega⟩)

theorem c44 (t : Value) (L : List Bk) (i : Int) (w : World) (ht : Arr refE w t L) : Gives Try.prog 44 [t, .int .i64 i] w (.agg #[.int .i64 (bkAt L i).st, .int .i64 (bkAt L i).er]) := by
  obtain ⟨a, c, rfl⟩ := ht.slice
  refine gives mix t44 rfl rfl (ε := [.slice a L.length c, .int .i64 i]) ⟨⟨_, _, _, rfl⟩, ⟨_, rfl⟩, trivial⟩ (den_blk fun b2 _ _ _ => den_norm (by simp only [List.cons_append, List.nil_append]; rfl) (den_splitLt (fun e => den_leaf ?_) (fun e1 => den_splitLe (fun e => den_leaf ?_) (fun e2 => ?_))))
  · have e' : i < 0 := e
    have : hasB L i = false := by simp [hasB]; intro; omega
    simp [bkAt_no this, SV.den, denL, IE.den, BE.den, nth, vint, vbool, vaddr, addO, addr_add]
  · have e' : (L.length : Int) ≤ i := e
    have : hasB L i = false := by simp [hasB]; intro; omega
    simp [bkAt_no this, SV.den, denL, IE.den, BE.den, nth, vint, vbool, vaddr, addO, addr_add]
  have e1' : 0 ≤ i := e1
  have e2' : i < L.length := e2
  obtain ⟨j, x, rfl, hx⟩ := hasB_some (show hasB L i = true by simp [hasB, e1', e2'])
  rw [bkAt_some hx]
  exact den_idx2 (E := refE) (L := L) x j (refE.enc x) ht rfl (by decide) rfl hx ⟨⟨_, rfl⟩, ⟨_, rfl⟩, trivial⟩ (whole _) (fun w h => ht.same h.base) (fun _ _ => by simp [BlkIn]) (fun w2 h2 => den_leaf rfl)
theorem c45 (t : Value) (L : List Bk) (w : World) (ht : Arr refE w t L) (hm : L.length < 4611686018427387904) : Gives Try.prog 45 [t] w (.tuple #[.int .i64 (if coldest 3 L < 0 then 0 else coldest 3 L), .bool (decide (0 ≤ coldest 3 L))]) := by
  obtain ⟨a, c, rfl⟩ := ht.slice
  refine gives mix t45 rfl rfl (ε := [.slice a L.length c]) ⟨⟨_, _, _, rfl⟩, trivial⟩ (den_call_int (x := coldest 3 L) (fun w1 h1 => c52 _ L 3 w1 (ht.same h1.base) hm) rfl fun w3 w4 h3 h4 => den_norm (by simp only [List.cons_append, List.nil_append]; rfl) (den_leaf ?_))
  simp [SV.den, denL, IE.den, BE.den, nth, vint, vbool, vaddr, addO, addr_add]
end Go.Proofs.Ytdinjabnfjoojaa
