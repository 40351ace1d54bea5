/- What the smaller functions of the chapter return. No conditions beyond those that each theorem names. -/
import Derived.Test.YtdinjabnfjoojaaT
import Derived.Test.YtdinjabnfjoojaaSxZE
set_option maxRecDepth 100000
set_option linter.unusedVariables false
set_option linter.unusedSimpArgs false
namespace Go.Proofs.Ytdinjabnfjoojaa
open Go.Sx

theorem mix : Try.prog.follows .mixedOrders = true := by kernel_rfl
/-- a block: its erase count and its state -/
structure Bk where
  er : Int
  st : Int
def blkE : Enc Bk := ⟨fun x => [.int .i64 x.er, .int .i64 x.st], 2, fun _ => rfl⟩
def refE : Enc Bk := ⟨fun x => [.int .i64 x.st, .int .i64 x.er], 2, fun _ => rfl⟩
abbrev bkV (x : Bk) : Value := .agg #[.int .i64 x.er, .int .i64 x.st]
abbrev pt (b : Nat) : Value := .pointer (some ⟨b, 0, none⟩)

theorem c10 (e : Int) (w : World) : Gives Try.prog 10 [.int .i64 e] w (.int .i64 e) := gives mix t10 rfl rfl (ε := [.int .i64 e]) ⟨⟨_, rfl⟩, trivial⟩ (den_leaf rfl)
def cnt (n : Int) : Bool := decide (0 ≤ n) && decide (n ≤ 1099511627776)
theorem c29 (n : Int) (w : World) : Gives Try.prog 29 [.int .i64 n] w (.bool (cnt n)) := by
  refine gives mix t29 rfl rfl (ε := [.int .i64 n]) ⟨⟨_, rfl⟩, trivial⟩ (den_splitLe (fun h => den_leaf ?_) (fun h => den_leaf ?_))
  all_goals simp only [IE.den, nth, vint] at h
  · simp [SV.den, denL, IE.den, BE.den, nth, vint, vbool, vaddr, addO, addr_add, cnt, h]
  · have : ¬ 0 ≤ n := by omega
    simp [SV.den, denL, IE.den, BE.den, nth, vint, vbool, vaddr, addO, addr_add, cnt, this]
theorem c28 (n : Int) (w : World) : Gives Try.prog 28 [.int .i64 n] w (.bool (!cnt n)) := by
  refine gives mix t28 rfl rfl (ε := [.int .i64 n]) ⟨⟨_, rfl⟩, trivial⟩ (den_call_bool (b := cnt n) (fun w _ => c29 n w) rfl fun _ _ _ _ => den_leaf ?_)
  simp [SV.den, denL, IE.den, BE.den, nth, vint, vbool, vaddr, addO, addr_add]
theorem go28 : goFunc Try.prog 28 = true := by kernel_rfl
theorem go34 : goFunc Try.prog 34 = true := by kernel_rfl
theorem go36 : goFunc Try.prog 36 = true := by kernel_rfl
theorem go37 : goFunc Try.prog 37 = true := by kernel_rfl
theorem go38 : goFunc Try.prog 38 = true := by kernel_rfl
theorem go49 : goFunc Try.prog 49 = true := by kernel_rfl
theorem c51 (s : Value) (L : List Int) (p : Int → Bool) (g : Nat) (w : World) (hm : L.length < 4611686018427387904) (hs : Arr intE w s L) (hg : goFunc Try.prog g = true) (hp : ∀ x w', Gives Try.prog g [.int .i64 x] w' (.bool (p x))) :
    Gives Try.prog 51 [s, .func (.func g) #[] #[]] w (.int .i64 (idxFrom (fun _ x => p x) 0 L)) := by
  obtain ⟨a, c, rfl⟩ := hs.slice
  refine gives mix t51 rfl rfl (ε := [.slice a L.length c, .func (.func g) #[] #[]]) ⟨⟨_, _, _, rfl⟩, rfl, trivial⟩ ?_
  refine den_for L.length (fun j _ => ∀ (i : Nat) y, i < j → L[i]? = some y → p y = false) ⟨rfl, fun w _ i y hi => by omega⟩ ?_
  intro j w1 hj hI hk hfa
  refine den_norm (by simp only [List.cons_append, List.nil_append]; rfl) (den_splitLt (fun hlt => ?_) (fun hge => ?_))
  · have hlt' : j < L.length := by simpa [IE.den, nth, vint, vlen] using hlt
    have hx : L[j]? = some L[j] := by simp [hlt']
    refine den_idx2 (E := intE) (L := L) L[j] j [.int .i64 L[j]] (hs.same hk) rfl (by decide) rfl hx ⟨⟨_, rfl⟩, trivial⟩ (whole _) (fun w h => hs.same h.base) (fun _ _ => by simp [BlkIn]) (fun w2 h2 => den_norm (by simp only [List.cons_append, List.nil_append]; rfl) ?_)
    refine den_callF (caps := []) rfl rfl hg (fun _ _ => False) (fun _ l _ => l = [.bool (p L[j])]) (fun _ _ _ h => h.elim) (fun w3 h3 => ?_) (fun w3 l w4 h3 _ hl _ => ?_)
    · refine ((hp L[j] w3).toR.runs).mono (fun v w' hv _ => ⟨[.bool (p L[j])], ⟨⟨_, rfl⟩, trivial⟩, ?_, rfl⟩) (fun _ _ h => h)
      rw [hv]; rfl
    · subst hl
      refine den_norm (by simp only [List.cons_append, List.nil_append]; rfl) (den_split (fun he => ?_) (fun he => ?_))
      · refine den_leaf_ne (by decide) (den_leaf ?_)
        simp only [denL, SV.den, IE.den, nth, vint]
        rw [idxFrom_found (fun _ x => p x) L 0 j L[j] hx he (fun i y hi hy => hI i y hi hy)]
        simp
      · refine den_ob64 (by simp only [IE.den, nth, vint]; omega) (den_next rfl hlt' fun w _ i y hi hy => ?_)
        by_cases hij : i = j
        · subst hij
          rw [hx] at hy
          cases hy
          exact he
        · exact hI i y (by omega) hy
  · have hge' : L.length ≤ j := by simpa [IE.den, nth, vint, vlen] using hge
    refine den_leaf_ne (by decide) (den_leaf ?_)
    simp only [denL, SV.den, IE.den]
    rw [idxFrom_none (fun _ x => p x) L 0 (fun i y hy => hI i y (Nat.lt_of_lt_of_le (List.getElem?_eq_some_iff.1 hy).1 hge') hy)]
theorem c27 (s : Value) (L : List Int) (p : Int → Bool) (g : Nat) (w : World) (hm : L.length < 4611686018427387904) (hs : Arr intE w s L) (hg : goFunc Try.prog g = true) (hp : ∀ x w', Gives Try.prog g [.int .i64 x] w' (.bool (p x))) :
    Gives Try.prog 27 [s, .func (.func g) #[] #[]] w (.bool (L.any p)) := by
  obtain ⟨a, c, rfl⟩ := hs.slice
  refine gives mix t27 rfl rfl (ε := [.slice a L.length c, .func (.func g) #[] #[]]) ⟨⟨_, _, _, rfl⟩, rfl, trivial⟩ (den_call_int (x := idxFrom (fun _ x => p x) 0 L) (fun w1 h1 => c51 _ L p g w1 hm (hs.same h1.base) hg hp) rfl fun _ _ _ _ => den_leaf ?_)
  simp only [SV.den, denL, IE.den, BE.den, nth, vint, vbool, vaddr, addO, addr_add, List.cons_append, List.nil_append, leB_eq]
  rw [contains_idx]
theorem underlying54 : Try.prog.underlying 54 = some (.slice 70) := by kernel_rfl
theorem info70 : Try.prog.info? 70 = some Try.t70 := by kernel_rfl
def z2 : Value := .agg #[.int .i64 0, .int .i64 0]
theorem zero70 : Try.t70.zero = some z2 := by kernel_rfl
theorem bytes70 : Try.t70.bytes ≤ 1000 := by decide +kernel
theorem one2 (x : Bk) : ∀ u ∈ blkE.enc x, u.oneCell' = true := by intro u hu; simp [blkE] at hu; rcases hu with rfl | rfl <;> rfl
theorem oneR (x : Bk) : ∀ u ∈ refE.enc x, u.oneCell' = true := by intro u hu; simp [refE] at hu; rcases hu with rfl | rfl <;> rfl
theorem c47 (s : Value) (L : List Bk) (w : World) (hs : Arr blkE w s L) (hm : L.length ≤ 60000000000) : GivesR Try.prog 47 [s] w (fun v w' => Mine blkE 70 w' v L ∧ (∀ g, v.ownBlock = some g → w.heap.size ≤ g) ∧ (vnil v = true → L = [])) :=
  clone_slice mix t47 underlying54 info70 zero70 (by kernel_rfl) (by kernel_rfl) (by decide) bytes70 one2 s L w hs hm

def isSt (s : Int) (x : Bk) : Bool := decide (x.st = s)
def ltE (x y : Bk) : Bool := decide (x.er < y.er)
def gtE (x y : Bk) : Bool := decide (y.er < x.er)
def good (x : Bk) : Bool := !decide (x.st = 4)
def rels (x : Bk) : Bool := (decide (x.st = 2) || decide (x.st = 3)) && decide (x.er < 1099511627776)
theorem c49 (x : Bk) (w : World) : Gives Try.prog 49 [bkV x] w (.bool (isSt 2 x)) :=
  gives mix t49 rfl rfl (ε := [.int .i64 x.er, .int .i64 x.st]) ⟨⟨_, rfl⟩, ⟨_, rfl⟩, trivial⟩ (den_blk fun b _ _ _ => den_leaf rfl)
theorem c36 (x : Bk) (w : World) : Gives Try.prog 36 [bkV x] w (.bool (good x)) :=
  gives mix t36 rfl rfl (ε := [.int .i64 x.er, .int .i64 x.st]) ⟨⟨_, rfl⟩, ⟨_, rfl⟩, trivial⟩ (den_blk fun b _ _ _ => den_leaf rfl)
theorem c37 (x y : Bk) (w : World) : Gives Try.prog 37 [bkV x, bkV y] w (.bool (ltE x y)) :=
  gives mix t37 rfl rfl (ε := [.int .i64 x.er, .int .i64 x.st, .int .i64 y.er, .int .i64 y.st]) ⟨⟨_, rfl⟩, ⟨_, rfl⟩, ⟨_, rfl⟩, ⟨_, rfl⟩, trivial⟩ (den_blk fun b _ _ _ => den_blk fun b _ _ _ => den_leaf rfl)
theorem c38 (x y : Bk) (w : World) : Gives Try.prog 38 [bkV x, bkV y] w (.bool (gtE x y)) :=
  gives mix t38 rfl rfl (ε := [.int .i64 x.er, .int .i64 x.st, .int .i64 y.er, .int .i64 y.st]) ⟨⟨_, rfl⟩, ⟨_, rfl⟩, ⟨_, rfl⟩, ⟨_, rfl⟩, trivial⟩ (den_blk fun b _ _ _ => den_blk fun b _ _ _ => den_leaf rfl)
theorem c34 (x : Bk) (w : World) : Gives Try.prog 34 [bkV x] w (.bool (rels x)) := by
  refine gives mix t34 rfl rfl (ε := [.int .i64 x.er, .int .i64 x.st]) ⟨⟨_, rfl⟩, ⟨_, rfl⟩, trivial⟩ (den_blk fun b _ _ _ => den_norm (by simp only [List.cons_append, List.nil_append]; rfl) ?_)
  refine den_call_bool (b := isSt 2 x) (fun w _ => ?_) rfl fun _ _ _ _ => den_norm (by simp only [List.cons_append, List.nil_append]; rfl) (den_split (fun h => den_leaf ?_) (fun h => den_splitEq (fun h2 => den_leaf ?_) (fun h2 => den_leaf ?_)))
  · exact c49 x w
  all_goals simp only [BE.den, nth, vbool, isSt, decide_eq_true_eq, decide_eq_false_iff_not] at h
  all_goals try simp only [IE.den, nth, vint] at h2
  · simp [SV.den, denL, IE.den, BE.den, nth, vint, vbool, vaddr, addO, addr_add, rels, h]
  · simp [SV.den, denL, IE.den, BE.den, nth, vint, vbool, vaddr, addO, addr_add, rels, h2]
  · simp [SV.den, denL, IE.den, BE.den, nth, vint, vbool, vaddr, addO, addr_add, rels, h, h2]

/-- best(l, wanted, before) -/
theorem c35 (s : Value) (L : List Bk) (p : Bk → Bool) (lt : Bk → Bk → Bool) (g1 g2 : Nat) (w : World) (hm : L.length < 4611686018427387904) (hs : Arr blkE w s L) (hg1 : goFunc Try.prog g1 = true) (hg2 : goFunc Try.prog g2 = true)
    (hp : ∀ x w', Gives Try.prog g1 [bkV x] w' (.bool (p x))) (hlt : ∀ x y w', Gives Try.prog g2 [bkV x, bkV y] w' (.bool (lt x y))) :
    Gives Try.prog 35 [s, .func (.func g1) #[] #[], .func (.func g2) #[] #[]] w (.int .i64 (bst p lt L)) := by
  obtain ⟨a, c, rfl⟩ := hs.slice
  refine gives mix t35 rfl rfl (ε := [.slice a L.length c, .func (.func g1) #[] #[], .func (.func g2) #[] #[]]) ⟨⟨_, _, _, rfl⟩, rfl, rfl, trivial⟩ ?_
  refine den_loop (fun ls _ => ∃ j : Nat, ls = [.int .i64 j, .int .i64 (bstN p lt L j)] ∧ j ≤ L.length) (fun ls _ => L.length - (vint (nth ls 0)).toNat) (fun w1 h1 => ⟨0, rfl, Nat.zero_le _⟩) ?_
  rintro w1 l w2 h1 hf ⟨j, rfl, hj⟩ hk hfa
  refine den_norm (by simp only [List.cons_append, List.nil_append]; rfl) (den_splitLt (fun h => ?_) (fun h => ?_))
  · have hlt' : j < L.length := by simpa [IE.den, nth, vint, vlen] using h
    have hx : L[j]? = some L[j] := by simp [hlt']
    generalize L[j] = x at hx
    have next : ∀ (k : Int), bstN p lt L (j + 1) = k → ∀ {ε : List Value} {t : List Nat} {fs : Facts} {G : Ctx} {wx ws : World} {X : Nat → Prop} {vs : List SV} {Λ : Nat → List Value → World → Prop}, denL ε vs = [.int .i64 ((j : Int) + 1), .int .i64 k] →
        (VC.leaf 1 vs t fs).den G (fun j' vs' w'' => if j' = 1 then (∃ j : Nat, vs' = [.int .i64 j, .int .i64 (bstN p lt L j)] ∧ j ≤ L.length) ∧ L.length - (vint (nth vs' 0)).toNat < L.length - (vint (nth [.int .i64 (j : Int), .int .i64 (bstN p lt L j)] 0)).toNat else Λ j' vs' w'') ε wx ws X := by
      intro k hk ε t fs G wx ws X vs Λ hv
      refine den_leaf' fun w _ => (if_pos rfl).mpr ⟨⟨j + 1, by rw [hv, hk]; simp, by omega⟩, ?_⟩
      rw [hv]
      simp only [nth, vint]
      omega
    refine den_idx2 (E := blkE) (L := L) x j (blkE.enc x) (hs.same hk) rfl (by decide) rfl hx ⟨⟨_, rfl⟩, ⟨_, rfl⟩, trivial⟩ (whole _) (fun w h => hs.same h.base) (fun _ _ => by simp [BlkIn]) (fun w3 h3 => ?_)
    refine den_norm (by simp only [List.cons_append, List.nil_append, blkE]; rfl) (den_blk fun b7 k7 _ k70 => den_norm (by simp only [List.cons_append, List.nil_append]; rfl) ?_)
    have z7 : w.heap.size ≤ b7 := k70
    refine den_start1 fun w4 h4 => ?_
    have no : ∀ ad, vaddr (.slice a L.length c) = some ad → ad.block < w.heap.size := hs.lt hx (by decide)
    refine den_callF (caps := []) rfl rfl hg1 (fun _ _ => False) (fun _ l _ => l = [.bool (p x)]) (fun _ _ _ h => h.elim) (fun w5 h5 => ?_) (fun w5 l w6 h5 _ hl hk6 => ?_)
    · refine ((hp x w5).toR.runs).mono (fun v w' hv _ => ⟨[.bool (p x)], ⟨⟨_, rfl⟩, trivial⟩, ?_, rfl⟩) (fun _ _ h => h)
      rw [hv]; rfl
    subst hl
    refine den_norm (by simp only [List.cons_append, List.nil_append]; rfl) (den_split (fun hpx => den_splitLt (fun h7 => ?_) (fun h7 => ?_)) (fun hpx => ?_))
    · have hpx' : p x = true := hpx
      have h7' : bstN p lt L j < 0 := h7
      exact den_ob64 (by simp only [IE.den, nth, vint]; omega) (next _ (bstN_first hx hpx' h7') rfl)
    · have hpx' : p x = true := hpx
      have h7' : 0 ≤ bstN p lt L j := h7
      rcases bstN_bounds p lt L j with h8 | ⟨i, y, hij, hi, hy, _⟩
      · omega
      refine den_idxD2 (E := blkE) (L := L) y i (blkE.enc y) rfl (by decide) hi hy ⟨⟨_, rfl⟩, ⟨_, rfl⟩, trivial⟩ (whole _) (hs.same h4.base) (fun ad had => by have := no ad had; simp [BlkIn, nth, blkOf, vaddr]; omega) ?_
      refine den_norm (by simp only [List.cons_append, List.nil_append, blkE]; rfl) ?_
      refine den_callF (caps := []) rfl rfl hg2 (fun _ _ => False) (fun _ l _ => l = [.bool (lt x y)]) (fun _ _ _ h => h.elim) (fun w5 h5 => ?_) (fun w5 l w6 h5 _ hl hk6 => ?_)
      · refine ((hlt x y w5).toR.runs).mono (fun v w' hv _ => ⟨[.bool (lt x y)], ⟨⟨_, rfl⟩, trivial⟩, ?_, rfl⟩) (fun _ _ h => h)
        rw [hv]; rfl
      subst hl
      have hc := bstN_cmp hx hpx' hi hy (lt := lt)
      refine den_norm (by simp only [List.cons_append, List.nil_append]; rfl) (den_split (fun h9 => ?_) (fun h9 => ?_))
      · have h9' : lt x y = true := h9
        rw [if_pos h9'] at hc
        exact den_ob64 (by simp only [IE.den, nth, vint]; omega) (next _ hc rfl)
      · have h9' : lt x y = false := h9
        rw [if_neg (by rw [h9']; simp), ← hi] at hc
        exact den_ob64 (by simp only [IE.den, nth, vint]; omega) (next _ hc rfl)
    · have hpx' : p x = false := hpx
      exact den_ob64 (by simp only [IE.den, nth, vint]; omega) (next _ (bstN_no hx hpx') rfl)
  · have hge : L.length ≤ j := by simpa [IE.den, nth, vint, vlen] using h
    obtain rfl : j = L.length := by omega
    exact den_leaf' fun w3 h3 => (if_neg (by decide)).mpr ⟨rfl, h3.base⟩
end Go.Proofs.Ytdinjabnfjoojaa
