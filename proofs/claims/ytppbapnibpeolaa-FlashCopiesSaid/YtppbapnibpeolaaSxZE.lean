/- Part ZA of a symbolic run of Go code by computation: its states, conditions and the proof that a condition that holds says what the function returns. No conditions of its own. -/
import Derived.Test.YtppbapnibpeolaaSxZ
import Derived.Carry
import Derived.OpenShut
import Derived.ProofKit
set_option linter.unusedVariables false
set_option linter.unusedSimpArgs false
namespace Go.Sx
open Go.RowKit

section
variable {G : Ctx} {Λ : Nat → List Value → World → Prop} {ε : List Value} {wx ws : World} {X : Nat → Prop} {k k' : VC}

theorem SeqOk.same {P : Program} {g : Nat} {caps : Array Value} {w w' : World} {Ft : Nat → Prop} {ys : List (Array Value)} (h : SeqOk P g caps w Ft ys) (hs : ∀ b, Ft b → w'.heap[b]? = w.heap[b]?) : SeqOk P g caps w' Ft ys :=
  fun l J Jx W h1 h2 h3 => h l J Jx W (fun k W1 hJ b hb => (h1 k W1 hJ b hb).trans (hs b hb)) h2 h3

/-- v is an iterator that reads no more than blocks from lo to hi, and hands out these -/
structure SeqAt (P : Program) (lo hi : Nat) (w : World) (v : Value) (ys : List (Array Value)) : Prop where
  ex : ∃ (g : Nat) (caps : Array Value) (Ft : Nat → Prop), v = .func (.func g) #[] caps ∧ goFunc P g = true ∧ SeqOk P g caps w Ft ys ∧ ∀ b, Ft b → lo ≤ b ∧ b < hi ∧ b < w.heap.size ∧ ¬ IsRec w b
theorem SeqAt.kept {P : Program} {lo hi : Nat} {w w2 : World} {v : Value} {ys : List (Array Value)} {M : Nat → Prop} (h : SeqAt P lo hi w v ys) (hk : Kept M w w2) (hM : ∀ b, lo ≤ b → b < hi → ¬ IsRec w b → ¬ M b) : SeqAt P lo hi w2 v ys := by
  obtain ⟨g, caps, Ft, rfl, hg, hs, hf⟩ := h.ex
  have hb : ∀ b, Ft b → w2.heap[b]? = w.heap[b]? := fun b hb => hk.block b (hf b hb).2.2.1 (hM b (hf b hb).1 (hf b hb).2.1 (hf b hb).2.2.2)
  refine ⟨g, caps, Ft, rfl, hg, hs.same hb, fun b hb' => ⟨(hf b hb').1, (hf b hb').2.1, Nat.lt_of_lt_of_le (hf b hb').2.2.1 hk.size, ?_⟩⟩
  rintro ⟨o, ho, hr⟩
  rw [hb b hb'] at ho
  exact (hf b hb').2.2.2 ⟨o, ho, hr⟩

/-- what holds behind a round's code -/
abbrev RoundΛ (i : Nat) (J : List Value → World → Prop) (Λ : Nat → List Value → World → Prop) (Ft : Nat → Prop) (w : World) : Nat → List Value → World → Prop :=
  fun j vs' w'' => if j = i then J vs' w'' ∧ ∀ b, Ft b → w''.heap[b]? = w.heap[b]? else Λ j vs' w''
theorem den_leaf_round {i : Nat} {J : List Value → World → Prop} {Ft : Nat → Prop} {w w0 w' : World} {vs : List SV} {t : List Nat} {fs : Facts} (hFt : ∀ b, Ft b → w'.heap[b]? = w.heap[b]? ∧ b < w'.heap.size)
    (h : ∀ w2, Shown (G.round w0 w' Ft) ε t fs wx w2 → J (denL ε vs) w2) : (VC.leaf i vs t fs).den (G.round w0 w' Ft) (RoundΛ i J Λ Ft w) ε wx ws X := by
  intro w2 hw2
  refine (if_pos rfl).mpr ⟨h w2 hw2, fun b hb => ?_⟩
  have hk : Kept (fun b => b < w0.heap.size ∧ (b < G.W0.heap.size → G.M b) ∧ ¬ Ft b) w' w2 := hw2.base
  exact (hk.block b (hFt b hb).2 fun hm => hm.2.2 hb).trans (hFt b hb).1
/-- the code behind a jump out of a round -/
theorem den_resume {i : Nat} {J : List Value → World → Prop} {Ft : Nat → Prop} {w w0 w' : World} {t t' : List Nat} {fs : Facts}
    (h : ∀ w2, Shown (G.round w0 w' Ft) ε t fs wx w2 → ∀ w3, Quiet w2 w3 → Kept G.M G.W0 w3 → k.den (G.round w0 w' Ft).out (RoundΛ i J Λ Ft w) ε w3 w3 (BlkIn ε t')) : (VC.resume t t' fs k).den (G.round w0 w' Ft) (RoundΛ i J Λ Ft w) ε wx ws X :=
  fun w2 hw2 w3 hq hk => h w2 hw2 w3 hq hk
/-- a range over a function -/
theorem den_range {i : Nat} {fv : SV} {ybs : List Base} {tys : List TypeId} {vs : List SV} {cbs : List Base} {t t' : List Nat} {fs fsa : Facts} {kb ka : VC}
    (xs : List (List Value)) (J : Nat → List Value → World → Prop) (lo hi : Nat)
    (hxs : ∀ x ∈ xs, Fits ybs x) (hblk : ∀ b, BlkIn ε t' b → b < lo ∨ hi ≤ b)
    (hseq : ∀ w, Shown G ε t fs wx w → SeqAt G.P lo hi w (fv.den ε) (xs.map fun x => (yvals G.P tys x).toArray))
    (h0 : ∀ w, Shown G ε t fs wx w → J 0 (denL ε vs) w)
    (hround : ∀ w Ft, Shown G ε t fs wx w → ∀ k x, xs[k]? = some x → ∀ l, Fits cbs l → ∀ w0 w', J k l w0 → Quiet w0 w' → Kept G.M G.W0 w' → FactsAt (ε ++ l ++ x) w' fsa → (∀ b, Ft b → w'.heap[b]? = w.heap[b]? ∧ b < w'.heap.size) →
      kb.den (G.round w0 w' Ft) (RoundΛ i (J (k + 1)) Λ Ft w) (ε ++ l ++ x) w' w' (BlkIn (ε ++ l ++ x) t'))
    (hafter : ∀ w, Shown G ε t fs wx w → ∀ l, Fits cbs l → ∀ w0 w', J xs.length l w0 → Quiet w0 w' → Kept G.M G.W0 w' → FactsAt (ε ++ l) w' fsa → ka.den G Λ (ε ++ l) w' w' (BlkIn (ε ++ l) t')) :
    (VC.range i fv ybs tys vs cbs t t' fs fsa kb ka).den G Λ ε wx ws X := by
  intro w hw
  obtain ⟨g, caps, Ft, hv, hg, hs, hf⟩ := (hseq w hw).ex
  refine ⟨g, caps.toList, xs, fun k l w' => J k l w' ∧ ∀ b, Ft b → w'.heap[b]? = w.heap[b]?, Ft, by rw [hv], hg, hxs, hs, fun _ _ _ h => h.2, fun b hb => ⟨(hf b hb).2.2.1, (hf b hb).2.2.2, fun hin => ?_⟩, ⟨h0 w hw, fun _ _ => rfl⟩, fun k x hx => allB_intro fun l hl w0 w' hJ hq hk hfa => ?_, allB_intro fun l hl w0 w' hJ hq hk hfa => ?_⟩
  · have := (hf b hb).1
    have := (hf b hb).2.1
    rcases hblk b hin with h | h <;> omega
  · refine hround w Ft hw k x hx l hl w0 w' hJ.1 hq hk hfa fun b hb => ?_
    have hlt := (hf b hb).2.2.1
    have h1 := hJ.2 b hb
    have hlt0 : b < w0.heap.size := by
      rw [Array.getElem?_eq_getElem hlt] at h1
      exact (Array.getElem?_eq_some_iff.1 h1).1
    have h2 : w'.heap[b]? = w0.heap[b]? := hq.block b hlt0 fun ⟨o, ho, hr⟩ => (hf b hb).2.2.2 ⟨o, by rw [← h1]; exact ho, hr⟩
    exact ⟨h2.trans h1, Nat.lt_of_lt_of_le hlt0 hq.size⟩
  · exact hafter w hw l hl w0 w' hJ.1 hq hk hfa
end
end Go.Sx

/- Part ZB of a symbolic run of Go code by computation: its states, conditions and the proof that a condition that holds says what the function returns. No conditions of its own. -/
set_option linter.unusedVariables false
set_option linter.unusedSimpArgs false
namespace Go.Sx
open Go.RowKit

/-- the list with these put at a place -/
def fillV (cells : List Value) (off : Nat) (vs : List Value) : List Value := cells.take off ++ vs ++ cells.drop (off + vs.length)
theorem fillV_length {cells vs : List Value} {off : Nat} (h : off + vs.length ≤ cells.length) : (fillV cells off vs).length = cells.length := by
  simp [fillV]; omega
theorem fillV_append_left {a b vs : List Value} {off : Nat} (h : off + vs.length ≤ a.length) : fillV (a ++ b) off vs = fillV a off vs ++ b := by
  unfold fillV
  rw [List.take_append_of_le_length (by omega), List.drop_append_of_le_length (by omega)]
  simp
theorem fillV_append_right {a b vs : List Value} {off : Nat} (h : a.length ≤ off) : fillV (a ++ b) off vs = a ++ fillV b (off - a.length) vs := by
  unfold fillV
  rw [List.take_append, List.drop_append, List.take_of_length_le h, List.drop_of_length_le (by omega)]
  simp only [List.nil_append, List.append_assoc]
  rw [show off + vs.length - a.length = off - a.length + vs.length by omega]
theorem fillV_flatMap {α : Type} (E : Enc α) {x y : α} {o2 : Nat} {vs : List Value} (hx : E.enc x = fillV (E.enc y) o2 vs) (h2 : o2 + vs.length ≤ E.sz) : ∀ (L : List α) (j : Nat), L[j]? = some y →
    (L.set j x).flatMap E.enc = fillV (L.flatMap E.enc) (j * E.sz + o2) vs
  | [], j, h => by simp at h
  | z :: L, 0, h => by
    simp only [List.getElem?_cons_zero, Option.some.injEq] at h
    subst h
    rw [List.set_cons_zero, List.flatMap_cons, List.flatMap_cons, Nat.zero_mul, Nat.zero_add, fillV_append_left (by rw [E.len]; exact h2), hx]
  | z :: L, j + 1, h => by
    rw [List.set_cons_succ, List.flatMap_cons, List.flatMap_cons, fillV_append_right (by rw [E.len, Nat.succ_mul]; omega), fillV_flatMap E hx h2 L j (by simpa using h), E.len]
    congr 2
    rw [Nat.succ_mul]; omega

section
variable {G : Ctx} {Λ : Nat → List Value → World → Prop} {ε : List Value} {wx ws : World} {X : Nat → Prop} {k k' : VC}

/-- a store into a block that is not tracked -/
theorem den_store {t₀ type : TypeId} {x y : Operand} {sx sy : SV} {drawn : Bool} {t t' un : List Nat} {fs : Facts} {n : Nat} (b off : Nat) (v : Value) (vs : List Value)
    (hn : sizeT G.P t₀ = some n) (hx : sx.den ε = .pointer (some ⟨b, off, none⟩)) (hy : sy.den ε = v) (hv : v.cells.toList = vs) (hl : vs.length = n) (h1 : ∀ u ∈ vs, u.oneCell' = true)
    (hb : ∀ w, Shown G ε t fs wx w → ∃ cur ty, w.heap[b]? = some (.cells cur ty (0, 0)) ∧ off + n ≤ cur.size)
    (hF : ∀ w, Shown G ε t fs wx w → FpOk G drawn X ε un w b)
    (hk : ∀ w w' cur ty, Shown G ε t fs wx w → w.heap[b]? = some (.cells cur ty (0, 0)) → w'.heap[b]? = some (.cells (fillV cur.toList off vs).toArray ty (0, 0)) → Kept (fun x => x = b) w w' →
      k.den G Λ ε w' (if drawn then ws else w') (if drawn then X else BlkIn ε t')) :
    (VC.gen (.store t₀ x y) type [(x, sx), (y, sy)] [] undefS [] drawn t t' un fs k).den G Λ ε wx ws X := by
  refine den_genF (fun z => z = b) (fun w l w' => l = [] ∧ ∃ cur ty, w.heap[b]? = some (.cells cur ty (0, 0)) ∧ w'.heap[b]? = some (.cells (fillV cur.toList off vs).toArray ty (0, 0))) (fun w hw z hz _ => by subst hz; exact hF w hw) ?_ ?_
  · intro w hw ρ hρ
    obtain ⟨cur, ty, hh, hle⟩ := hb w hw
    have e1 : ρ x = .pointer (some ⟨b, off, none⟩) := by have := hρ (x, sx.den ε) (by simp); rw [this, hx]
    have e2 : ρ y = v := by have := hρ (y, sy.den ε) (by simp); rw [this, hy]
    have hs := fun w'' => run_size (P := G.P) hn w''
    have hst := run_storeCells_at G.P b off ty vs 0 cur w hh (by omega) h1
    simp only [Nat.add_zero] at hst
    refine .inl ⟨undef, w.setRow b (cur.toList.take off ++ vs ++ cur.toList.drop (off + vs.length)).toArray, .inr ⟨?_, rfl⟩, ⟨[], trivial, rfl, rfl, cur, ty, hh, setRow_heap w b cur _ ty (0, 0) hh⟩, ⟨rfl, rfl, rfl, by rw [setRow_size]; exact Nat.le_refl _, fun z hz hne => setRow_other _ _ _ _ hne⟩⟩
    have hvs : v.cells.size = n := by rw [← Array.length_toList, hv, hl]
    simp [execOp, bare, Instr.storeAt, Instr.sureAddr, storeVar, e1, e2, hs, hv, hvs, hst]
  · rintro w l w' hw _ ⟨rfl, cur, ty, h2, h3⟩ hs
    have := hk w w' cur ty hw h2 h3 hs
    rw [List.append_nil]
    exact this

/-- a store into an untracked block of which all cells are known -/
theorem den_storeP {t₀ type : TypeId} {x y : Operand} {sx sy : SV} {drawn : Bool} {t t' un : List Nat} {fs : Facts} {n : Nat} (b off : Nat) (v : Value) (vs cells : List Value)
    (hn : sizeT G.P t₀ = some n) (hx : sx.den ε = .pointer (some ⟨b, off, none⟩)) (hy : sy.den ε = v) (hv : v.cells.toList = vs) (hl : vs.length = n) (h1 : ∀ u ∈ vs, u.oneCell' = true)
    (hb : ∀ w, Shown G ε t fs wx w → HasBlk w (.pointer (some ⟨b, 0, none⟩)) cells) (hle : off + n ≤ cells.length)
    (hF : ∀ w, Shown G ε t fs wx w → FpOk G drawn X ε un w b)
    (hk : ∀ w w', Shown G ε t fs wx w → HasBlk w' (.pointer (some ⟨b, 0, none⟩)) (fillV cells off vs) → Kept (fun x => x = b) w w' →
      k.den G Λ ε w' (if drawn then ws else w') (if drawn then X else BlkIn ε t')) :
    (VC.gen (.store t₀ x y) type [(x, sx), (y, sy)] [] undefS [] drawn t t' un fs k).den G Λ ε wx ws X := by
  refine den_store b off v vs hn hx hy hv hl h1 (fun w hw => ?_) hF (fun w w' cur ty hw h2 h3 hs => ?_)
  · obtain ⟨b', ty, e, hh⟩ := hb w hw
    cases e
    exact ⟨_, ty, hh, by simpa using hle⟩
  · obtain ⟨b', ty', e, hh⟩ := hb w hw
    cases e
    rw [hh] at h2
    cases h2
    exact hk w w' hw ⟨b, _, rfl, h3⟩ hs

/-- a store into an element of a slice of one's own -/
theorem den_storeM {α : Type} {E : Enc α} {T : TypeId} {t₀ type : TypeId} {x y : Operand} {i sz off2 : Nat} {e : IE} {sy : SV} {drawn : Bool} {t t' un : List Nat} {fs : Facts} {n : Nat} (s : Value) (L : List α) (j : Nat) (a a' : α) (v : Value) (vs : List Value)
    (hn : sizeT G.P t₀ = some n) (hs : nth ε i = s) (hsz : E.sz = sz) (he : e.den ε = j) (hx : L[j]? = some a) (hy : sy.den ε = v) (hv : v.cells.toList = vs) (hl : vs.length = n) (h1 : ∀ u ∈ vs, u.oneCell' = true)
    (hle : off2 + n ≤ E.sz) (hpos : 0 < E.sz) (ha : E.enc a' = fillV (E.enc a) off2 vs)
    (hb : ∀ w, Shown G ε t fs wx w → Mine E T w s L)
    (hF : ∀ w, Shown G ε t fs wx w → ∀ g, s.ownBlock = some g → FpOk G drawn X ε un w g)
    (hex : ∃ w, Mine E T w s L)
    (hk : ∀ w w', Shown G ε t fs wx w → Mine E T w' s (L.set j a') → Kept (fun x => s.ownBlock = some x) w w' →
      k.den G Λ ε w' (if drawn then ws else w') (if drawn then X else BlkIn ε t')) :
    (VC.gen (.store t₀ x y) type [(x, .elt i 0 e sz off2), (y, sy)] [] undefS [] drawn t t' un fs k).den G Λ ε wx ws X := by
  obtain ⟨w0, hw0⟩ := hex
  have hj : j < L.length := (List.getElem?_eq_some_iff.1 hx).1
  have hne : L ≠ [] := by intro e; subst e; simp at hj
  obtain ⟨g, c, rfl⟩ : ∃ g c, s = .slice (some ⟨g, 0, none⟩) L.length c := by
    rcases hw0.forms with ⟨_, e⟩ | ⟨g, c, cur, ty, e, _⟩
    · exact absurd e hne
    · exact ⟨g, c, e⟩
  have own : ∀ {w : World}, Mine E T w (.slice (some ⟨g, 0, none⟩) L.length c) L → w.ownsRow 0 T E.sz (.slice (some ⟨g, 0, none⟩) L.length c) L.length (L.flatMap E.enc) := fun h => h.resolve_right fun h' => hne h'.1
  have hjs : j * E.sz + E.sz ≤ L.length * E.sz := by rw [← Nat.succ_mul]; exact Nat.mul_le_mul_right _ hj
  refine den_store g (j * E.sz + off2) v vs hn ?_ hy hv hl h1 (fun w hw => ?_) (fun w hw => hF w hw g rfl) (fun w w' cur ty hw h2 h3 hk' => ?_)
  · simp only [SV.den, hs, vaddr, addO, Option.map_some, he, Int.toNat_natCast, addr_add, Nat.zero_add, hsz]
  · obtain ⟨hlen, ⟨e, _⟩ | ⟨g', cap, cur, e, _, hh, hnc, hcm, hcs, ht⟩⟩ := own (hb w hw)
    · cases e
    · cases e
      refine ⟨cur, T, hh, ?_⟩
      rw [hcs]
      have := Nat.mul_le_mul_right E.sz hnc
      omega
  · obtain ⟨hlen, ⟨e, _⟩ | ⟨g', cap, cur, e, _, hh, hnc, hcm, hcs, ht⟩⟩ := own (hb w hw)
    · cases e
    cases e
    rw [hh] at h2
    cases h2
    refine hk w w' hw (.inl ⟨flatMap_length E _, .inr ⟨g, c, _, by rw [List.length_set], Nat.zero_le _, h3, by rw [List.length_set]; exact hnc, hcm, ?_, ?_⟩⟩) (hk'.mono fun b _ hb => by rw [hb]; rfl)
    · have h5 := Nat.mul_le_mul_right E.sz hnc
      have h6 : cur.toList.length = c * E.sz := by simpa using hcs
      rw [List.size_toArray, fillV_length (by rw [h6, hl]; omega), h6]
    · have h5 := Nat.mul_le_mul_right E.sz hnc
      rw [List.length_set, fillV_flatMap E ha (by rw [hl]; exact hle) L j hx, ← ht]
      have e1 : cur.toList = cur.toList.take (L.length * E.sz) ++ cur.toList.drop (L.length * E.sz) := (List.take_append_drop _ _).symm
      have hlt : (cur.toList.take (L.length * E.sz)).length = L.length * E.sz := by rw [List.length_take, show cur.toList.length = c * E.sz by simpa using hcs]; omega
      simp only [List.toList_toArray]
      conv => lhs; rw [e1]
      rw [fillV_append_left (by rw [hlt]; omega), List.take_left' (by rw [fillV_length (by rw [hlt]; omega), hlt])]

/-- what is read of an element of a slice that lies in no tracked block -/
theorem den_idx2 {i sz off2 : Nat} {e : IE} {bs : List Base} {t t' : List Nat} {fs : Facts} {α : Type} {E : Enc α} {L : List α} {w0 : World} (x : α) (j : Nat) (l : List Value) (hA : Arr E w0 (nth ε i) L) (hsz : E.sz = sz) (hpos : 0 < E.sz) (he : e.den ε = j) (hx : L[j]? = some x) (hl : Fits bs l) (hlc : ∀ (m : Nat) v, l[m]? = some v → (E.enc x)[off2 + m]? = some v)
    (hR : ∀ w, Shown G ε t fs wx w → Arr E w (nth ε i) L) (hX : ∀ ad, vaddr (nth ε i) = some ad → ¬ BlkIn ε t' ad.block)
    (hk : ∀ w, Shown G ε t fs wx w → k.den G Λ (ε ++ l) w w (BlkIn ε t')) :
    (VC.ob (.le (.lit 0) e) (VC.ob (.lt e (.len i)) (VC.ob (.not (.nil i)) (VC.start false t t' fs (VC.load (.elt i 0 e sz off2) bs k))))).den G Λ ε wx ws X := by
  have hj : j < L.length := (List.getElem?_eq_some_iff.1 hx).1
  obtain ⟨a, c, hs⟩ := hA.slice
  obtain ⟨ad0, had0, _⟩ := hA.elem hx hpos
  refine ⟨by simp [BE.den, IE.den, he], by simp [BE.den, IE.den, he, hs, vlen]; exact hj, ?_, ?_⟩
  · rw [hs] at had0; simp only [vaddr] at had0; subst had0; simp [BE.den, hs, vnil]
  · intro w hw
    obtain ⟨ad, had, hc⟩ := (hR w hw).elem hx hpos
    refine ⟨l, hl, ⟨(ad.add (j * E.sz)).add off2, ?_, ?_, fun m v hv => by rw [add_add]; exact hc _ v (hlc m v hv)⟩, hk w hw⟩
    · simp only [SV.den, had, addO, Option.map_some, he, hsz, Int.toNat_natCast]
      simp [Addr.add]
    · rw [add_block, add_block]
      exact hX ad had
/-- the obligations of an index into a slice -/
theorem den_obs {i : Nat} {e : IE} {α : Type} {E : Enc α} {L : List α} {w0 : World} (j : Nat) (hA : Arr E w0 (nth ε i) L) (hpos : 0 < E.sz) (he : e.den ε = j) (hj : j < L.length) (hk : k.den G Λ ε wx ws X) :
    (VC.ob (.le (.lit 0) e) (VC.ob (.lt e (.len i)) (VC.ob (.not (.nil i)) k))).den G Λ ε wx ws X := by
  obtain ⟨a, c, hs⟩ := hA.slice
  obtain ⟨ad0, had0, _⟩ := hA.elem (j := j) (x := L[j]) (by simp [hj]) hpos
  refine ⟨by simp [BE.den, IE.den, he], by simp [BE.den, IE.den, he, hs, vlen]; exact hj, ?_, hk⟩
  rw [hs] at had0; simp only [vaddr] at had0; subst had0; simp [BE.den, hs, vnil]
end

section
variable {G : Ctx} {Λ : Nat → List Value → World → Prop} {ε : List Value} {wx ws : World} {X : Nat → Prop} {k k' : VC}
end
end Go.Sx

/- Part ZC of a symbolic run of Go code by computation: its states, conditions and the proof that a condition that holds says what the function returns. No conditions of its own. -/
set_option linter.unusedVariables false
set_option linter.unusedSimpArgs false
namespace Go.Sx
open Go.RowKit

/-! what is read stays what it is where its blocks stay -/
theorem HasBlk.of_eq {w w' : World} {p : Value} {l : List Value} (h : HasBlk w p l) (he : ∀ b, blkOf p = some b → w'.heap[b]? = w.heap[b]?) : HasBlk w' p l := by
  obtain ⟨b, ty, rfl, hh⟩ := h
  exact ⟨b, ty, rfl, (he b rfl).trans hh⟩
theorem Mine.of_eq {α : Type} {E : Enc α} {T : TypeId} {w w' : World} {s : Value} {L : List α} (h : Mine E T w s L) (he : ∀ b, s.ownBlock = some b → w'.heap[b]? = w.heap[b]?) : Mine E T w' s L := by
  rcases h with ⟨hl, ⟨rfl, hn⟩ | ⟨g, cap, cur, rfl, hb, hh, h1, h2, h3, h4⟩⟩ | ⟨rfl, g, cur, ty, rfl, hh⟩
  · exact .inl ⟨hl, .inl ⟨rfl, hn⟩⟩
  · exact .inl ⟨hl, .inr ⟨g, cap, cur, rfl, hb, (he g rfl).trans hh, h1, h2, h3, h4⟩⟩
  · exact .inr ⟨rfl, g, cur, ty, rfl, (he g rfl).trans hh⟩
section
variable {G : Ctx} {Λ : Nat → List Value → World → Prop} {ε : List Value} {wx ws : World} {X : Nat → Prop} {k k' : VC}
theorem shown_same {fs : Facts} {w : World} (h : Shown G ε [] fs wx w) : Same wx w := h.kept.mono fun _ _ ⟨i, hi, _⟩ => by simp at hi
theorem shown_new {t : List Nat} {fs : Facts} {w : World} (h : Shown G ε t fs wx w) (hn : ∀ b, BlkIn ε t b → wx.heap.size ≤ b) : Same wx w := h.kept.mono fun k hk hb => absurd (hn k hb) (by omega)
/-- a call of yield -/
theorem den_yield {fo : Operand} {argTypes : Array TypeId} {cl : Call} {type : TypeId} {fsv : SV} {vals : List (Operand × SV)} {n : Nat} {drawn : Bool} {t t' un : List Nat} {fs : Facts}
    (hcl : cl = { callee := .value fo, args := (vals.map (·.1)).toArray, argTypes := argTypes }) {l : Nat} (hf : fsv.den ε = .func (.yield l) #[] #[]) (Fp : World → Nat → Prop) (R : World → Bool → World → Prop)
    (hn : ∀ v, nth (ε ++ [.bool v]) n = .bool v)
    (hF : ∀ w, Shown G ε t fs wx w → ∀ b, Fp w b → b < w.heap.size → FpOk G drawn X ε un w b)
    (hc : ∀ w, Shown G ε t fs wx w → YieldAt Fence.wide 0 G.P l (vals.map (fun p => p.2.den ε)).toArray w (fun e w' => ∃ v, e = .returned (.bool v) ∧ R w v w' ∧ Kept (Fp w) w w'))
    (hk : ∀ w v w', Shown G ε t fs wx w → R w v w' → Kept (Fp w) w w' → k.den G Λ (ε ++ [.bool v]) w' (if drawn then ws else w') (if drawn then X else BlkIn ε t')) :
    (VC.gen (.call cl) type ((fo, fsv) :: vals) [Base.bool] (.bool (.var n)) [] drawn t t' un fs k).den G Λ ε wx ws X := by
  subst hcl
  intro w hw
  refine ⟨fun l w' => ∃ v, l = [.bool v] ∧ R w v w', Fp w, fun ρ hρ => ?_, hF w hw, allB_intro ?_⟩
  · have h1 : ρ fo = .func (.yield l) #[] #[] := by rw [hρ.1, hf]
    have h2 : (vals.map (·.1)).toArray.map ρ = (vals.map (fun p => p.2.den ε)).toArray := by
      have : ∀ l : List (Operand × SV), ValsAt ε ρ l → l.map (fun p => ρ p.1) = l.map (fun p => p.2.den ε) := by
        intro l
        induction l with
        | nil => intro _; rfl
        | cons p l ih => intro h; simp only [List.map_cons]; rw [h.1, ih h.2]
      apply Array.ext'
      simp only [Array.toList_map, List.map_map]
      exact this vals hρ.2
    obtain ⟨fn, tmps, assign, body, hr, hround⟩ := hc w hw
    refine .inr (.inl ⟨l, fn, tmps, assign, body, w, ?_, hround.mono ?_⟩)
    · simp only [execOp, bare, resolve, h1, Sem.run_bind]
      simp [Deferred.ofValue, h2, invoke]
      simpa using hr
    · rintro e w' ⟨v, rfl, hR, hk'⟩
      exact ⟨_, rfl, [.bool v], ⟨⟨_, rfl⟩, trivial⟩, by simp only [SV.den, BE.den, hn]; rfl, ⟨v, rfl, hR⟩, hk', trivial⟩
  · rintro l hl w' ⟨v, rfl, hR⟩ hsame
    have := hk w v w' hw hR hsame
    cases drawn <;> exact this
end
end Go.Sx

/- Part ZD of a symbolic run of Go code by computation: its states, conditions and the proof that a condition that holds says what the function returns. No conditions of its own. -/
set_option linter.unusedVariables false
set_option linter.unusedSimpArgs false
namespace Go.Sx
open Go.RowKit Go.ChangeShapes Go.WideShapes Go.ChangeAt

theorem list_of_each {α : Type} {p : Nat → α → Prop} : ∀ (n : Nat), (∀ i, i < n → ∃ x, p i x) → ∃ L : List α, L.length = n ∧ ∀ (i : Nat) x, L[i]? = some x → p i x
  | 0, _ => ⟨[], rfl, fun i x h => by simp at h⟩
  | n + 1, h => by
    obtain ⟨L, hl, hL⟩ := list_of_each n fun i hi => h i (by omega)
    obtain ⟨x, hx⟩ := h n (by omega)
    refine ⟨L ++ [x], by simp [hl], fun i y hy => ?_⟩
    by_cases hi : i < L.length
    · exact hL i y (by rwa [List.getElem?_append_left hi] at hy)
    · rw [List.getElem?_append_right (by omega)] at hy
      have : i - L.length = 0 := by
        have := (List.getElem?_eq_some_iff.1 hy).1
        simp at this
        omega
      rw [this] at hy
      cases hy
      rw [show i = n by omega]
      exact hx
theorem flatMap_at {α : Type} (E : Enc α) : ∀ (L : List α) (k : Nat) (v : Value), (L.flatMap E.enc)[k]? = some v → ∃ (i : Nat) (x : α) (m : Nat), L[i]? = some x ∧ (E.enc x)[m]? = some v ∧ k = i * E.sz + m
  | [], k, v, h => by simp at h
  | y :: L, k, v, h => by
    rw [List.flatMap_cons] at h
    by_cases hk : k < (E.enc y).length
    · rw [List.getElem?_append_left hk] at h
      exact ⟨0, y, k, rfl, h, by simp⟩
    · rw [List.getElem?_append_right (by omega)] at h
      obtain ⟨i, x, m, h1, h2, h3⟩ := flatMap_at E L _ v h
      refine ⟨i + 1, x, m, by simpa using h1, h2, ?_⟩
      rw [E.len] at h3 hk
      rw [Nat.succ_mul]
      omega

section
variable {H : Type} {enc : TypeId × Value → H} {P : Program} {w : World} {base : Nat} {spare : Nat → Bool} {held : Bool}

/-- a slice that is read as data holds a list of elements -/
theorem trod_arr {α : Type} {E : Enc α} {t e : TypeId} {fuel : Nat} {cs : List Value} {x : DataW H × List MemPlace} (ht : P.underlying t = some (.slice e)) (hc : P.cellsOf e = E.sz)
    (dec : ∀ n cs y, DataW.trod enc P w base spare held n e cs = some y → ∃ a, cs = E.enc a) (h : DataW.trod enc P w base spare held fuel t cs = some x) :
    ∃ (v : Value) (L : List α), cs = [v] ∧ Arr E w v L ∧ (∀ n c, v = .slice none n c → n = 0 ∧ c = 0) ∧ L.length ≤ vcap v ∧ vcap v ≤ maxLen := by
  rcases DataW.trod_slice ht h with ⟨rfl, _⟩ | ⟨a, len, cap, elems, rest, n, _, rfl, _, hb, hl, hm, hlen, hel, _⟩
  · exact ⟨_, [], rfl, ⟨⟨none, 0, rfl⟩, by simp, fun j x hx => by simp at hx⟩, fun n c e => by cases e; exact ⟨rfl, rfl⟩, Nat.zero_le _, Nat.zero_le _⟩
  · have each : ∀ i, i < len → ∃ x : α, w.cells? base (a.add (i * P.cellsOf e)) (P.cellsOf e) = some (E.enc x) := by
      intro i hi
      have h1 := hel i hi
      have h2 : elems[i]? = some (elems[i]'(by omega)) := by simp [hlen, hi]
      rw [h2, Option.bind_eq_some_iff] at h1
      obtain ⟨c1, hc1, hy⟩ := h1
      obtain ⟨x, rfl⟩ := dec _ _ _ hy
      exact ⟨x, hc1⟩
    obtain ⟨L, hL, hp⟩ := list_of_each len each
    refine ⟨_, L, rfl, ⟨⟨some a, cap, by rw [hL]⟩, flatMap_length E L, fun k v hv => ⟨a, rfl, ?_⟩⟩, fun n c e => (by cases e), by simp only [vcap]; omega, hm⟩
    obtain ⟨i, x, m, h1, h2, rfl⟩ := flatMap_at E L k v hv
    have h3 := World.cells?_some (hp i x h1)
    have h4 := h3.2.2 m (by rw [hc, ← E.len x]; exact (List.getElem?_eq_some_iff.1 h2).1)
    rw [add_add, hc] at h4
    rw [h4, h2]
/-- a struct whose fields are a cell each -/
theorem trod_cells {t : TypeId} {fs : Array Field} {ts : List TypeId} {fuel : Nat} {cs : List Value} {x : DataW H × List MemPlace} (ht : P.underlying t = some (.struct fs)) (hfs : fs.toList.map (fun f => (f.offset, f.type)) = (List.range ts.length).zip ts)
    (hone : ∀ u ∈ ts, P.cellsOf u = 1) (hn : P.cellsOf t = ts.length) (h : DataW.trod enc P w base spare held fuel t cs = some x) :
    cs.length = ts.length ∧ ∀ (i : Nat) u, ts[i]? = some u → ∃ n c y, cs[i]? = some c ∧ DataW.trod enc P w base spare held n u [c] = some y := by
  obtain ⟨xs, n, _, _, hl, hxl, hf⟩ := DataW.trod_struct ht h
  refine ⟨by rw [hl, hn], fun i u hu => ?_⟩
  have hi := (List.getElem?_eq_some_iff.1 hu).1
  have h1 : (fs.toList.map (fun f => (f.offset, f.type)))[i]? = some (i, u) := by
    rw [hfs, List.getElem?_zip_eq_some]
    exact ⟨by simp [hi], hu⟩
  rw [List.getElem?_map, Option.map_eq_some_iff] at h1
  obtain ⟨f, hff, he⟩ := h1
  simp only [Prod.mk.injEq] at he
  obtain ⟨ho, hu'⟩ := he
  subst hu'
  have h2 := hf i f (by rw [← Array.getElem?_toList, hff])
  have h3 : xs[i]? = some (xs[i]'(by rw [hxl, ← Array.length_toList]; exact (List.getElem?_eq_some_iff.1 hff).1)) := by simp
  rw [hone f.type (List.mem_of_getElem? hu), h3, ho] at h2
  have hlt : i < cs.length := by rw [hl, hn]; exact hi
  have e : (cs.drop i).take 1 = [cs[i]] := by
    rw [List.drop_eq_getElem_cons hlt]
    rfl
  rw [e] at h2
  exact ⟨n, cs[i], _, by simp [hlt], h2⟩
end
end Go.Sx

/- Part ZE of a symbolic run of Go code by computation: its states, conditions and the proof that a condition that holds says what the function returns. No conditions of its own. -/
set_option linter.unusedVariables false
set_option linter.unusedSimpArgs false
namespace Go.Sx
open Go.RowKit

theorem Arr.none {α : Type} {E : Enc α} {w : World} {n c : Nat} {L : List α} (hsz : 0 < E.sz) (h : Arr E w (.slice none n c) L) : L = [] ∧ n = 0 := by
  obtain ⟨a, c', e⟩ := h.slice
  cases L with
  | nil => cases e; exact ⟨rfl, rfl⟩
  | cons x L =>
    obtain ⟨ad, had, _⟩ := h.elem (j := 0) (x := x) rfl hsz
    cases had
/-- a slice that is given: nil has no length -/
def Given {α : Type} (E : Enc α) (w : World) (s : Value) (L : List α) : Prop := Arr E w s L ∧ (∀ n c, s = .slice none n c → n = 0 ∧ c = 0) ∧ L.length ≤ vcap s ∧ ∀ ad, vaddr s = some ad → ad.block < w.heap.size
theorem Given.same {α : Type} {E : Enc α} {w w' : World} {s : Value} {L : List α} (h : Given E w s L) (hk : Same w w') : Given E w' s L := ⟨h.1.same hk, h.2.1, h.2.2.1, fun ad had => Nat.lt_of_lt_of_le (h.2.2.2 ad had) hk.size⟩
theorem Given.kept {α : Type} {E : Enc α} {w w' : World} {s : Value} {L : List α} {M : Nat → Prop} (h : Given E w s L) (hk : Kept M w w') (hM : ∀ ad, vaddr s = some ad → ¬ M ad.block) : Given E w' s L :=
  ⟨h.1.kept hk fun ad had _ => hM ad had, h.2.1, h.2.2.1, fun ad had => Nat.lt_of_lt_of_le (h.2.2.2 ad had) hk.size⟩
theorem Mine.own {α : Type} {E : Enc α} {T : TypeId} {w : World} {s : Value} {L : List α} (h : Mine E T w s L) {ad : Addr} (had : vaddr s = some ad) : s.ownBlock = some ad.block :=
  ownBlock_addr had (let ⟨a, c, e⟩ := h.slice; ⟨a, _, c, e⟩)
theorem Mine.given {α : Type} {E : Enc α} {T : TypeId} {w : World} {s : Value} {L : List α} (h : Mine E T w s L) : Given E w s L := by
  refine ⟨h.arr, fun n c e => ?_, h.cap, fun ad had => h.lt (h.own had)⟩
  rcases h.forms with ⟨rfl, rfl⟩ | ⟨g, c', cur, ty, rfl, _⟩
  · cases e; exact ⟨rfl, rfl⟩
  · cases e
theorem given_nil {α : Type} {E : Enc α} {w : World} : Given E w (.slice none 0 0) ([] : List α) :=
  ⟨⟨⟨none, 0, rfl⟩, by simp, fun j x hx => by simp at hx⟩, fun n c e => by cases e; exact ⟨rfl, rfl⟩, Nat.zero_le _, fun ad had => by cases had⟩

section
variable {G : Ctx} {Λ : Nat → List Value → World → Prop} {ε : List Value} {wx ws : World} {X : Nat → Prop} {k k' : VC}
/-- a read of an element of a slice, its bounds known -/
theorem den_ldi {i sz off2 : Nat} {e : IE} {bs : List Base} {t t' : List Nat} {fs : Facts} {α : Type} {E : Enc α} {L : List α} (x : α) (j : Nat) (l : List Value) (hsz : E.sz = sz) (hpos : 0 < E.sz) (he : e.den ε = j) (hx : L[j]? = some x) (hl : Fits bs l) (hlc : ∀ (m : Nat) v, l[m]? = some v → (E.enc x)[off2 + m]? = some v)
    (hR : ∀ w, Shown G ε t fs wx w → Arr E w (nth ε i) L) (hX : ∀ ad, vaddr (nth ε i) = some ad → ¬ BlkIn ε t' ad.block)
    (hk : ∀ w, Shown G ε t fs wx w → k.den G Λ (ε ++ l) w w (BlkIn ε t')) :
    (VC.start false t t' fs (VC.load (.elt i 0 e sz off2) bs k)).den G Λ ε wx ws X := by
  intro w hw
  obtain ⟨ad, had, hc⟩ := (hR w hw).elem hx hpos
  refine ⟨l, hl, ⟨(ad.add (j * E.sz)).add off2, ?_, ?_, fun m v hv => by rw [add_add]; exact hc _ v (hlc m v hv)⟩, hk w hw⟩
  · simp only [SV.den, had, addO, Option.map_some, he, hsz, Int.toNat_natCast]
    simp [Addr.add]
  · rw [add_block, add_block]
    exact hX ad had
end

/-- slices.Clone -/
theorem clone_slice {P : Program} (hmix : P.follows .mixedOrders = true) {α : Type} {E : Enc α} {f ty T : Nat} {i : TypeInfo} {z : Value}
    (t : exFn { P := P } f [.var 0] [.slice] [] = VC.split (BE.nil 0) (VC.leaf 0 [SV.cst (Value.slice none 0 0)] [] [])
      (VC.blk
        (VC.gen (Op.call { callee := Callee.builtin Builtin.append, args := { toList := [Operand.tmp 5, Operand.tmp 6] }, argTypes := { toList := [ty, ty] } }) ty
          [(Operand.tmp 5, SV.slc 1 0 0 0), (Operand.tmp 6, SV.var 0)] [Base.slice] (SV.var 2) [] false [] [] [1] [(1, [])] (VC.leaf 0 [SV.var 2] [] [(1, [])]))))
    (ht : P.underlying ty = some (.slice T)) (hi : P.info? T = some i) (hz : i.zero = some z) (hsize : i.size = E.sz) (hzs : z.cells.size = E.sz) (hsz : 0 < E.sz) (hbs : i.bytes ≤ 1000) (h1 : ∀ x, ∀ u ∈ E.enc x, u.oneCell' = true)
    (s : Value) (L : List α) (w : World) (hs : Arr E w s L) (hm : L.length ≤ 60000000000) : GivesR P f [s] w (fun v w' => Mine E T w' v L ∧ (∀ g, v.ownBlock = some g → w.heap.size ≤ g) ∧ (vnil v = true → L = [])) := by
  obtain ⟨a, cp, rfl⟩ := hs.slice
  refine givesR hmix t rfl rfl (ε := [.slice a L.length cp]) ⟨⟨_, _, _, rfl⟩, trivial⟩ (den_split (fun h => ?_) (fun h => den_blk fun b hb _ _ => ?_))
  · have ha : a = none := by simpa [BE.den, nth, vnil] using h
    subst ha
    obtain ⟨rfl, _⟩ := hs.none hsz
    exact den_leafR _ rfl fun w' hw => ⟨Mine.nil, (fun g hg => by cases hg), fun _ => rfl⟩
  · have ha : ∃ ad, a = some ad := by cases a with | none => simp [BE.den, nth, vnil] at h | some ad => exact ⟨ad, rfl⟩
    obtain ⟨ad, rfl⟩ := ha
    refine den_norm (by simp only [List.cons_append, List.nil_append]; rfl) ?_
    refine den_appendL (E := E) (T := T) rfl ht hi hz hsize hzs hsz hbs h1 (.slice (some ⟨b, 0, none⟩) 0 0) (.slice (some ad) L.length cp) [] L (by simp [SV.den, nth, vaddr, addO, addr_add]) rfl (fun n c e => by cases e) (by simp; omega) (fun g hg hc => by simp [vcap] at hc) (by simp [keys]) ?_ (fun g hg hc => by simp [vcap] at hc) (fun hd => by cases hd) (fun _ => rfl) ?_
    · intro w1 h1
      refine ⟨?_, hs.same h1.base⟩
      obtain ⟨b', ty, hb', hh⟩ := h1.facts.1
      cases hb'
      exact .inr ⟨rfl, b, _, ty, rfl, hh⟩
    · intro w1 s' w2 h1 ho hk hfr hap
      rw [List.nil_append] at ho
      refine den_norm (by simp only [List.cons_append, List.nil_append]; rfl) (den_leafR s' rfl fun w3 h3 => ⟨ho.same (shown_same h3), fun g hg => ?_, fun hn => ?_⟩)
      · rcases hfr with ⟨e, _⟩ | ⟨b', e, hle, _⟩
        · rw [e] at hg; cases hg; exact hb
        · rw [e] at hg; cases hg; exact Nat.le_trans h1.base.size hle
      · rcases ho.forms with ⟨rfl, e⟩ | ⟨g, c, cur, ty, rfl, _⟩
        · exact e
        · simp [vnil] at hn

def intE : Enc Int := ⟨fun n => [.int .i64 n], 1, fun _ => rfl⟩

end Go.Sx
