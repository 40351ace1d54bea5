/- Taking bytes from the front of a buffer, and making blocks by a function. No conditions beyond those that each theorem names. -/
import Derived.Test.YtngemhmjpphpaaaDA
set_option maxRecDepth 100000
set_option maxHeartbeats 2000000
set_option linter.unusedVariables false
set_option linter.unusedSimpArgs false
namespace Go.Proofs.Ytngemhmjpphpaaa
open Go.Sx

abbrev pt (b : Nat) : Value := .pointer (some ⟨b, 0, none⟩)
theorem u42 : Try.prog.underlying 42 = some (.slice 70) := Try.underlying42
theorem i70 : Try.prog.info? 70 = some Try.t70 := by kernel_rfl
def zBl : Value := .agg #[.slice none 0 0, .slice none 0 0]
theorem z70 : Try.t70.zero = some zBl := by kernel_rfl
theorem s70 : Try.t70.size = bvE.sz := by kernel_rfl
theorem by70 : Try.t70.bytes ≤ 1000 := by decide +kernel
theorem st70 : sizeT Try.prog 70 = some 2 := by kernel_rfl

/-- bytes that lie in memory below lo -/
def Old (lo : Nat) (w : World) (s : Sl) (D : List Int) : Prop := Given byteE w s.v D ∧ ∀ ad, s.a = some ad → ad.block < lo
theorem Old.kept {lo : Nat} {w w' : World} {s : Sl} {D : List Int} {M : Nat → Prop} (h : Old lo w s D) (hk : Kept M w w') (hM : ∀ b, M b → lo ≤ b) : Old lo w' s D :=
  ⟨h.1.kept hk fun ad had hm => by have h1 := h.2 ad had; have h2 := hM _ hm; omega, h.2⟩
theorem Old.same {lo : Nat} {w w' : World} {s : Sl} {D : List Int} (h : Old lo w s D) (hk : Same w w') : Old lo w' s D := h.kept hk fun _ h => h.elim
/-- the block holds the rest of a buffer -/
def Src (lo pd : Nat) (w : World) (D : List Int) : Prop := ∃ s : Sl, HasBlk w (pt pd) [s.v] ∧ Old lo w s D
theorem Src.kept {lo pd : Nat} {w w' : World} {D : List Int} {M : Nat → Prop} (h : Src lo pd w D) (hk : Kept M w w') (hM : ∀ b, M b → lo ≤ b ∧ b ≠ pd) : Src lo pd w' D := by
  obtain ⟨s, h1, h2⟩ := h
  obtain ⟨b, ty, e, hh⟩ := h1
  cases e
  exact ⟨s, ⟨pd, ty, rfl, (hk.block pd (Array.getElem?_eq_some_iff.1 hh).1 (fun hm => (hM _ hm).2 rfl)).trans hh⟩, h2.kept hk fun b hb => (hM b hb).1⟩
theorem Src.lt {lo pd : Nat} {w : World} {D : List Int} (h : Src lo pd w D) : pd < w.heap.size := by
  obtain ⟨s, ⟨b, ty, e, hh⟩, _⟩ := h
  cases e
  exact (Array.getElem?_eq_some_iff.1 hh).1
theorem sliced_v (a : Option Addr) (l h m sz : Nat) : ∃ s : Sl, sliced a l h m sz = s.v ∧ s.n = h - l ∧ s.c = m - l ∧ (∀ ad, s.a = some ad → ∃ ad', a = some ad' ∧ ad'.block = ad.block) := by
  refine ⟨⟨if m = l then a else a.map (·.add (l * sz)), h - l, m - l⟩, ?_, rfl, rfl, ?_⟩
  · unfold sliced Sl.v
    split <;> rfl
  · intro ad had
    dsimp only at had
    split at had
    · exact ⟨ad, had, rfl⟩
    · cases a with
      | none => cases had
      | some a =>
        cases had
        exact ⟨a, rfl, (add_block a _).symm⟩
theorem Old.sub {lo : Nat} {w : World} {a : Option Addr} {n c : Nat} {D : List Int} (h : Old lo w ⟨a, n, c⟩ D) (l k m : Nat) (hl : l ≤ k) (hk : k ≤ n) (hm : k ≤ m) (hmc : m ≤ c) :
    ∃ s : Sl, sliced a l k m 1 = s.v ∧ Old lo w s ((D.take k).drop l) := by
  obtain ⟨s, hs, hn, hc, ha⟩ := sliced_v a l k m 1
  have h1 : Arr byteE w (sliced a l k m 1) ((D.take k).drop l) := Arr.sub (E := byteE) h.1.1 hl hk hm
  have hlen : n = D.length := given_n (p := ⟨a, n, c⟩) (Given.givn h.1)
  refine ⟨s, hs, ⟨by rw [← hs]; exact h1, ?_, ?_, fun ad had => ?_⟩, fun ad had => ?_⟩
  · intro n' c' e
    rw [← hs] at e
    exact sliced_nil (n := n) (c := c) (fun n' c' e => h.1.2.1 n' c' e) hk hmc n' c' e
  · simp only [List.length_drop, List.length_take, Sl.v, vcap, hc]
    omega
  · obtain ⟨ad', h2, h3⟩ := ha ad had
    rw [← h3]
    exact h.1.2.2.2 ad' h2
  · obtain ⟨ad', h2, h3⟩ := ha ad had
    rw [← h3]
    exact h.2 ad' h2
theorem go53 : goFunc Try.prog 53 = true := by kernel_rfl
/-- taking n bytes -/
theorem c53 (lo pd : Nat) (n : Nat) (D : List Int) (w : World) (h : Src lo pd w D) (hlo : lo ≤ pd) (hn : n ≤ D.length) :
    Runs Try.prog 53 [.int .i64 n, pt pd] w (fun b => b = pd) (fun v w' => ∃ s : Sl, v = s.v ∧ Old lo w' s (D.take n) ∧ Src lo pd w' (D.drop n)) := by
  obtain ⟨⟨a, k, c⟩, hb, ho⟩ := h
  have hk : k = D.length := given_n (Given.givn ho.1)
  have hc : D.length ≤ c := ho.1.2.2.1
  have h := runs mix t53 rfl rfl (ε := [.int .i64 n, pt pd, .slice a k c]) (w := w) (M := fun b => b = pd) (R := fun v w' => ∃ s : Sl, v = s.v ∧ Old lo w' s (D.take n) ∧ Src lo pd w' (D.drop n)) ⟨⟨_, rfl⟩, ⟨_, rfl⟩, ⟨_, _, _, rfl⟩, trivial⟩ ⟨hb, trivial⟩ (by simp [keys]) (by simp [keys]) (by simp [keys, nth, blkOf, vaddr]) ?_
  · simpa [denL, SV.den, IE.den, nth, vint, vaddr, addO, addr_add] using h
  obtain ⟨s1, e1, o1⟩ := ho.sub 0 n n (by omega) (by omega) (by omega) (by omega)
  obtain ⟨s2, e2, o2⟩ := ho.sub n k c (by omega) (by omega) (by omega) (by omega)
  refine den_start0 fun w1 h1 => den_slice a k c none (some (n : Int)) (some (n : Int)) 0 n n 1 u40 st5 (fun ρ h => h.1) (fun _ _ => rfl) (fun ρ h => congrArg some h.2.1) (fun ρ h => congrArg some h.2.2.1) (.inr ⟨rfl, by omega⟩) (.inr ⟨rfl, Nat.le_refl _⟩) (.inl ⟨rfl, rfl⟩) (fun _ => rfl) (den_norm (by simp only [List.cons_append, List.nil_append]; rfl) ?_)
  refine den_start0 fun w2 h2 => den_slice a k c (some (n : Int)) none none n k c 1 u40 st5 (fun ρ h => h.1) (fun ρ h => congrArg some h.2.1) (fun _ _ => rfl) (fun _ _ => rfl) (.inl ⟨rfl, rfl⟩) (.inl ⟨rfl, rfl, rfl⟩) (.inr ⟨rfl, by omega⟩) (fun _ => rfl) (den_norm (by simp only [List.cons_append, List.nil_append]; rfl) (den_leafA _ rfl fun w3 h3 => ?_))
  have f3 : HasBlk w3 (pt pd) [sliced a n k c 1] := h3.facts.1
  have hk3 : ∀ b, b = pd → lo ≤ b := fun b hb => by omega
  refine ⟨s1, e1, ?_, s2, ?_, ?_⟩
  · have := o1.kept h3.base hk3
    simpa using this
  · rw [e2] at f3; exact f3
  · have := o2.kept h3.base hk3
    rw [hk, List.take_length] at this
    exact this
theorem c42 (s : Value) (w : World) (hs : ∃ a n c, s = .slice a n c) : GivesR Try.prog 42 [s] w (fun v w' => ∃ b, w.heap.size ≤ b ∧ v = .func (.func 53) #[] #[pt b] ∧ HasBlk w' (pt b) [s]) := by
  obtain ⟨a, n, c, rfl⟩ := hs
  refine givesR mix t42 rfl rfl (ε := [.slice a n c]) ⟨⟨_, _, _, rfl⟩, trivial⟩ (den_blk fun b hb _ _ => den_leafR _ rfl fun w' hw => ⟨b, hb, ?_, hw.facts.1⟩)
  rfl
theorem c45 (s : Value) (L : List Int) (w : World) (hs : Arr byteE w s L) (hm : L.length ≤ 60000000000) : GivesR Try.prog 45 [s] w (fun v w' => Mine byteE 5 w' v L ∧ (∀ g, v.ownBlock = some g → w.heap.size ≤ g) ∧ (vnil v = true → L = [])) :=
  clone_slice mix t45 u40 i5 z5 s5 rfl (by decide) by5 byte_one s L w hs hm
/-- a new slice of zeros -/
theorem mine_zeros {w : World} {b m : Nat} (hm : m ≤ 65000000000) (h : w.heap[b]? = some (.cells (madeCells (Value.int .u8 0).cells (m * Try.t5.size)) 5 (0, 0))) : Mine byteE 5 w (.slice (some ⟨b, 0, none⟩) m m) (List.replicate m (0 : Int)) := by
  rw [show Try.t5.size = 1 from s5, Nat.mul_one] at h
  refine .inl ⟨by simp [byteE], .inr ⟨b, m, _, by simp, Nat.zero_le _, h, by simp, by simp [maxLen]; omega, by simp [size_madeCells, byteE], ?_⟩⟩
  rw [show (Value.int .u8 0).cells = #[.int .u8 0] from rfl, toList_madeCells_one, byte_flat]
  simp [byteE]

theorem made_flat {α : Type} (E : Enc α) (x : α) (z : Array Value) (hz : z.toList = E.enc x) (hpos : 0 < E.sz) (n : Nat) : (madeCells z (n * E.sz)).toList = (List.replicate n x).flatMap E.enc := by
  have hsz : z.size = E.sz := by rw [← Array.length_toList, hz, E.len]
  apply List.ext_getElem?
  intro j
  by_cases hj : j < n * E.sz
  · have hi : j / E.sz < n := (Nat.div_lt_iff_lt_mul hpos).2 hj
    have hm : j % E.sz < E.sz := Nat.mod_lt _ hpos
    have h1 := flatMap_get E (List.replicate n x) (j / E.sz) x (j % E.sz) ((E.enc x)[j % E.sz]'(by rw [E.len]; exact hm)) (by simp [hi]) (by simp)
    have hj2 : j / E.sz * E.sz + j % E.sz = j := by rw [Nat.mul_comm]; exact Nat.div_add_mod j E.sz
    rw [hj2] at h1
    rw [h1]
    have hlt : j % z.size < z.size := by rw [hsz]; exact hm
    have h2 : z.toList[j % z.size]? = some ((E.enc x)[j % E.sz]'(by rw [E.len]; exact hm)) := by
      rw [hz, hsz]; simp
    rw [Array.getElem?_toList] at h2
    simp only [madeCells, Array.toList_map, List.getElem?_map, Array.toList_range, List.getElem?_range hj, Option.map_some]
    rw [getElem!_pos z _ hlt]
    rw [Array.getElem?_eq_getElem hlt] at h2
    exact h2
  · rw [List.getElem?_eq_none (by simp [madeCells]; omega), List.getElem?_eq_none (by rw [flatMap_length]; simp; omega)]

/-- a block's bytes in slices of their own, at lo or behind -/
structure BlkIs (lo : Nat) (w : World) (p : Sl × Sl) (q : Bl) : Prop where
  d : Mine byteE 5 w p.1.v q.1
  m : Mine byteE 5 w p.2.v q.2
  ld : ∀ g, p.1.v.ownBlock = some g → lo ≤ g
  lm : ∀ g, p.2.v.ownBlock = some g → lo ≤ g
theorem BlkIs.kept {lo : Nat} {w w' : World} {p : Sl × Sl} {q : Bl} {M : Nat → Prop} (h : BlkIs lo w p q) (hk : Kept M w w') (hM : ∀ b, lo ≤ b → b < w.heap.size → ¬ M b) : BlkIs lo w' p q :=
  ⟨h.d.kept hk fun g hg => hM g (h.ld g hg) (h.d.lt hg), h.m.kept hk fun g hg => hM g (h.lm g hg) (h.m.lt hg), h.ld, h.lm⟩
theorem BlkIs.up {lo lo' : Nat} {w : World} {p : Sl × Sl} {q : Bl} (h : BlkIs lo w p q) (hl : lo' ≤ lo) : BlkIs lo' w p q :=
  ⟨h.d, h.m, fun g hg => Nat.le_trans hl (h.ld g hg), fun g hg => Nat.le_trans hl (h.lm g hg)⟩
/-- a slice of blocks, all of it new -/
structure BlksNew (lo : Nat) (w : World) (v : Value) (LV : List (Sl × Sl)) (L : List Bl) : Prop where
  mine : Mine bvE 70 w v LV
  lv : ∀ g, v.ownBlock = some g → lo ≤ g
  len : LV.length = L.length
  each : ∀ (i : Nat) p q, LV[i]? = some p → L[i]? = some q → BlkIs lo w p q
theorem BlksNew.blks {lo : Nat} {w : World} {v : Value} {LV : List (Sl × Sl)} {L : List Bl} (h : BlksNew lo w v LV L) : Blks lo w v LV L := by
  refine ⟨h.mine.arr, h.len, fun ad had => h.lv _ (h.mine.own had), fun i p q hp hq => ?_⟩
  have := h.each i p q hp hq
  exact ⟨Given.givn this.d.given, Given.givn this.m.given, fun ad had => this.ld _ (this.d.own had), fun ad had => this.lm _ (this.m.own had)⟩

/-- made(n, of): the results of a function, one after the other -/
theorem c43 (n g : Nat) (caps : List Value) (fv : Value) (F : Nat → Bl) (J : Nat → World → Prop) (FM : Nat → Prop) (w : World) (hn : n ≤ 65536) (hfv : fv = .func (.func g) #[] caps.toArray) (hg : goFunc Try.prog g = true)
    (hFM : ∀ b, FM b → b < w.heap.size) (hJ0 : J 0 w)
    (hJ : ∀ k w1 w2 M, J k w1 → Kept M w1 w2 → (∀ b, M b → w.heap.size ≤ b) → J k w2)
    (hstep : ∀ k w1, k < n → J k w1 → w.heap.size ≤ w1.heap.size → Runs Try.prog g ([.int .i64 k] ++ caps) w1 FM (fun v w2 => ∃ p : Sl × Sl, v = .agg #[p.1.v, p.2.v] ∧ BlkIs w1.heap.size w2 p (F k) ∧ J (k + 1) w2)) :
    Runs Try.prog 43 [.int .i64 n, fv] w FM (fun v w' => ∃ LV, BlksNew w.heap.size w' v LV ((List.range n).map F) ∧ J n w') := by
  subst hfv
  have hb70 : (Try.t70.bytes : Int) * n ≤ 281474976710656 := by
    have h1 : (Try.t70.bytes : Int) ≤ 1000 := by have := by70; omega
    have h2 : (Try.t70.bytes : Int) * n ≤ 1000 * 65536 := Int.mul_le_mul h1 (by omega) (by omega) (by omega)
    exact Int.le_trans h2 (by decide)
  refine runs mix t43 rfl rfl (ε := [.int .i64 n, .func (.func g) #[] caps.toArray]) (heap := []) ⟨⟨_, rfl⟩, rfl, trivial⟩ trivial (by simp [keys]) (by simp [keys]) (by simp [keys]) ?_
  refine den_make (n := n) u42 i70 z70 rfl rfl hb70 (by omega) (fun v => rfl) (fun w1 bo w2 h1 hbo hh2 s12 => ?_)
  have z1 : w.heap.size ≤ w1.heap.size := h1.base.size
  have hboW : w.heap.size ≤ bo := Nat.le_trans z1 hbo
  have hfo : ∀ b, FM b → b < bo := fun b hb => Nat.lt_of_lt_of_le (hFM b hb) hboW
  have hz : Mine bvE 70 w2 (.slice (some ⟨bo, 0, none⟩) n n) (List.replicate n ((⟨none, 0, 0⟩, ⟨none, 0, 0⟩) : Sl × Sl)) := by
    refine .inl ⟨flatMap_length _ _, .inr ⟨bo, n, _, by simp, Nat.zero_le _, hh2, by simp, by simp [maxLen]; omega, ?_, ?_⟩⟩
    · rw [show Try.t70.size = 2 from s70]; simp [size_madeCells, bvE]
    · rw [show Try.t70.size = bvE.sz from s70, made_flat bvE ((⟨none, 0, 0⟩, ⟨none, 0, 0⟩) : Sl × Sl) zBl.cells rfl (by decide) n]
      apply List.take_of_length_le
      rw [flatMap_length]
      simp
  have hJ1 : J 0 w1 := hJ 0 w w1 _ hJ0 (h1.kept) (fun b hb => by simp [BlkIn, nth, blkOf, vaddr] at hb)
  have hJ2 : J 0 w2 := hJ 0 w1 w2 _ hJ1 s12 (fun b hb => hb.elim)
  refine den_norm (by simp only [List.cons_append, List.nil_append]; rfl) (den_loop (fun ls w' => ∃ (k : Nat) (LV : List (Sl × Sl)), ls = [.int .i64 k] ∧ k ≤ n ∧ Mine bvE 70 w' (.slice (some ⟨bo, 0, none⟩) n n) LV ∧ LV.length = n ∧ (∀ (i : Nat) p, i < k → LV[i]? = some p → BlkIs (bo + 1) w' p (F i)) ∧ J k w') (fun ls _ => n - (vint (nth ls 0)).toNat) (fun w3 h3 => ?_) ?_)
  · exact ⟨0, _, rfl, Nat.zero_le _, hz.same (shown_same h3), by simp, fun i p hi => by omega, hJ 0 w2 w3 _ hJ2 (shown_same h3) (fun b hb => hb.elim)⟩
  clear hz hJ2 hJ1 hh2
  rintro w3 l w4 h3 hf ⟨k, LV, rfl, hk, hm, hLn, hL, hJk⟩ hkept hfa
  have lo4 : bo < w4.heap.size := hm.lt rfl
  refine den_norm (by simp only [List.cons_append, List.nil_append]; rfl) (den_splitLt (fun hlt => ?_) (fun hge => ?_))
  · have hkn : k < n := by simpa [IE.den, nth, vint, vlen] using hlt
    refine den_callF rfl rfl hg (fun _ b => FM b) (fun w5 l w6 => ∃ p : Sl × Sl, l = [p.1.v, p.2.v] ∧ BlkIs w5.heap.size w6 p (F k) ∧ J (k + 1) w6) (fun w5 h5 b hb hlt5 => ⟨fun hd => (by cases hd), fun _ => hb, fun hin => (by simp [BlkIn, nth, blkOf, vaddr] at hin), fun hx => (by cases hx)⟩) (fun w5 h5 => ?_) (fun w5 l w6 h5 hfl hR hk6 => ?_)
    · have h6 := hstep k w5 hkn (hJ k w4 w5 _ hJk (shown_same h5) (fun b hb => hb.elim)) h5.base.size
      refine h6.mono (fun v w' ⟨p, hv, hp, hj⟩ _ => ?_) (fun _ _ h => h)
      exact ⟨[p.1.v, p.2.v], ⟨⟨_, _, _, rfl⟩, ⟨_, _, _, rfl⟩, trivial⟩, hv, p, rfl, hp, hj⟩
    obtain ⟨p, rfl, hp, hj1⟩ := hR
    have z45 : w4.heap.size ≤ w5.heap.size := h5.kept.size
    have hmo : Mine bvE 70 w6 (.slice (some ⟨bo, 0, none⟩) n n) LV := (hm.same (shown_same h5)).kept hk6 fun g hg hb => by
      cases hg
      exact Nat.lt_irrefl _ (hfo _ hb)
    have hLo : ∀ (i : Nat) p, i < k → LV[i]? = some p → BlkIs (bo + 1) w6 p (F i) := fun i p hi hp => ((hL i p hi hp).kept (shown_same h5) fun _ _ _ h => h).kept hk6 fun b hb hb2 hb3 => by
      have := hfo b hb3
      omega
    have hx : LV[k]? = some (LV[k]'(by omega)) := by simp
    generalize LV[k]'(by omega) = px at hx
    refine den_norm (by simp only [List.cons_append, List.nil_append]; rfl) (den_obs (E := bvE) (L := LV) k (show Arr bvE w6 (.slice (some ⟨bo, 0, none⟩) n n) LV from hmo.arr) (by decide) rfl (by omega) ?_)
    refine den_storeM (E := bvE) (T := 70) (.slice (some ⟨bo, 0, none⟩) n n) LV k px p (.agg #[p.1.v, p.2.v]) [p.1.v, p.2.v] st70 rfl rfl rfl hx rfl rfl rfl (bv_one p) (by decide) (by decide) (by simp [fillV, bvE]) (fun w7 h7 => hmo.same (shown_same h7)) (fun w7 h7 g hg => ?_) ⟨w6, hmo⟩ (fun w7 w8 h7 hm8 hk8 => ?_)
    · cases hg
      exact ⟨fun hd => (by cases hd), fun hlt => absurd (show bo < w.heap.size from hlt) (Nat.not_lt.2 hboW), fun hin => (by simp [BlkIn, nth, blkOf, vaddr] at hin), fun hx => (by cases hx)⟩
    have z67 : w6.heap.size ≤ w7.heap.size := h7.kept.size
    refine den_ob64 (by simp only [IE.den, nth, vint]; omega) (den_leaf' fun w9 h9 => (if_pos rfl).mpr ⟨⟨k + 1, LV.set k p, by simp [SV.den, denL, IE.den, BE.den, nth, vint, vbool, vaddr, addO, addr_add], by omega, hm8.same (shown_same h9), by simp [hLn], fun i q hi hq => ?_, ?_⟩, ?_⟩)
    · have keep : ∀ {pp : Sl × Sl} {qq : Bl}, BlkIs (bo + 1) w6 pp qq → BlkIs (bo + 1) w9 pp qq := fun hb => ((hb.kept (shown_same h7) fun _ _ _ h => h).kept hk8 fun b hb1 _ hb3 => by
        have e : bo = b := Option.some.inj hb3
        omega).kept (shown_same h9) fun _ _ _ h => h
      rw [List.getElem?_set] at hq
      by_cases hik : k = i
      · subst hik
        rw [if_pos rfl, if_pos (by omega)] at hq
        cases hq
        exact keep (hp.up (by omega))
      · rw [if_neg hik] at hq
        exact keep (hLo i q (by omega) hq)
    · exact hJ (k + 1) w8 w9 _ (hJ (k + 1) w7 w8 _ (hJ (k + 1) w6 w7 _ hj1 (shown_same h7) (fun b hb => hb.elim)) hk8 (fun b hb => by cases hb; exact hboW)) (shown_same h9) (fun b hb => hb.elim)
    · simp [SV.den, denL, IE.den, BE.den, nth, vint, vbool, vaddr, addO, addr_add]
      omega
  · have hkn : k = n := by have h' : (n : Int) ≤ k := hge
                           omega
    subst hkn
    refine den_leaf' fun w5 h5 => (if_neg (by decide)).mpr ⟨_, rfl, ⟨LV, ⟨hm.same (shown_same h5), fun g hg => by cases hg; exact hboW, by simp [hLn], fun i p q hp hq => ?_⟩, hJ k w4 w5 _ hJk (shown_same h5) (fun b hb => hb.elim)⟩, h5.base⟩
    have hi : i < k := by rw [← hLn]; exact (List.getElem?_eq_some_iff.1 hp).1
    simp only [List.getElem?_map, List.getElem?_range hi, Option.map_some, Option.some.injEq] at hq
    subst hq
    exact ((hL i p hi hp).kept (shown_same h5) fun _ _ _ h => h).up (by omega)
end Go.Proofs.Ytngemhmjpphpaaa
