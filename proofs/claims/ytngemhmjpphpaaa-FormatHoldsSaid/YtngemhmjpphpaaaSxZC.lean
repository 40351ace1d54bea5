/- Part ZB of a symbolic run of Go code by computation: its states, conditions and the proof that a condition that holds says what the function returns. No conditions of its own. -/
import Derived.Test.YtngemhmjpphpaaaSxZA
set_option linter.unusedVariables false
set_option linter.unusedSimpArgs false
namespace Go.Sx
open Go.RowKit

/-- the list with these put at a place -/
def fillV (cells : List Value) (off : Nat) (vs : List Value) : List Value := cells.take off ++ vs ++ cells.drop (off + vs.length)
theorem fillV_length {cells vs : List Value} {off : Nat} (h : off + vs.length ≤ cells.length) : (fillV cells off vs).length = cells.length := by
  simp [fillV]; omega
theorem fillV_append_left {a b vs : List Value} {off : Nat} (h : off + vs.length ≤ a.length) : fillV (a ++ b) off vs = fillV a off vs ++ b := by
  unfold fillV
  rw [List.take_append_of_le_length (by omega), List.drop_append_of_le_length (by omega)]
  simp
theorem fillV_append_right {a b vs : List Value} {off : Nat} (h : a.length ≤ off) : fillV (a ++ b) off vs = a ++ fillV b (off - a.length) vs := by
  unfold fillV
  rw [List.take_append, List.drop_append, List.take_of_length_le h, List.drop_of_length_le (by omega)]
  simp only [List.nil_append, List.append_assoc]
  rw [show off + vs.length - a.length = off - a.length + vs.length by omega]
theorem fillV_flatMap {α : Type} (E : Enc α) {x y : α} {o2 : Nat} {vs : List Value} (hx : E.enc x = fillV (E.enc y) o2 vs) (h2 : o2 + vs.length ≤ E.sz) : ∀ (L : List α) (j : Nat), L[j]? = some y →
    (L.set j x).flatMap E.enc = fillV (L.flatMap E.enc) (j * E.sz + o2) vs
  | [], j, h => by simp at h
  | z :: L, 0, h => by
    simp only [List.getElem?_cons_zero, Option.some.injEq] at h
    subst h
    rw [List.set_cons_zero, List.flatMap_cons, List.flatMap_cons, Nat.zero_mul, Nat.zero_add, fillV_append_left (by rw [E.len]; exact h2), hx]
  | z :: L, j + 1, h => by
    rw [List.set_cons_succ, List.flatMap_cons, List.flatMap_cons, fillV_append_right (by rw [E.len, Nat.succ_mul]; omega), fillV_flatMap E hx h2 L j (by simpa using h), E.len]
    congr 2
    rw [Nat.succ_mul]; omega

section
variable {G : Ctx} {Λ : Nat → List Value → World → Prop} {ε : List Value} {wx ws : World} {X : Nat → Prop} {k k' : VC}

/-- a store into a block that is not tracked -/
theorem den_store {t₀ type : TypeId} {x y : Operand} {sx sy : SV} {drawn : Bool} {t t' un : List Nat} {fs : Facts} {n : Nat} (b off : Nat) (v : Value) (vs : List Value)
    (hn : sizeT G.P t₀ = some n) (hx : sx.den ε = .pointer (some ⟨b, off, none⟩)) (hy : sy.den ε = v) (hv : v.cells.toList = vs) (hl : vs.length = n) (h1 : ∀ u ∈ vs, u.oneCell' = true)
    (hb : ∀ w, Shown G ε t fs wx w → ∃ cur ty, w.heap[b]? = some (.cells cur ty (0, 0)) ∧ off + n ≤ cur.size)
    (hF : ∀ w, Shown G ε t fs wx w → FpOk G drawn X ε un w b)
    (hk : ∀ w w' cur ty, Shown G ε t fs wx w → w.heap[b]? = some (.cells cur ty (0, 0)) → w'.heap[b]? = some (.cells (fillV cur.toList off vs).toArray ty (0, 0)) → Kept (fun x => x = b) w w' →
      k.den G Λ ε w' (if drawn then ws else w') (if drawn then X else BlkIn ε t')) :
    (VC.gen (.store t₀ x y) type [(x, sx), (y, sy)] [] undefS [] drawn t t' un fs k).den G Λ ε wx ws X := by
  refine den_genF (fun z => z = b) (fun w l w' => l = [] ∧ ∃ cur ty, w.heap[b]? = some (.cells cur ty (0, 0)) ∧ w'.heap[b]? = some (.cells (fillV cur.toList off vs).toArray ty (0, 0))) (fun w hw z hz _ => by subst hz; exact hF w hw) ?_ ?_
  · intro w hw ρ hρ
    obtain ⟨cur, ty, hh, hle⟩ := hb w hw
    have e1 : ρ x = .pointer (some ⟨b, off, none⟩) := by have := hρ (x, sx.den ε) (by simp); rw [this, hx]
    have e2 : ρ y = v := by have := hρ (y, sy.den ε) (by simp); rw [this, hy]
    have hs := fun w'' => run_size (P := G.P) hn w''
    have hst := run_storeCells_at G.P b off ty vs 0 cur w hh (by omega) h1
    simp only [Nat.add_zero] at hst
    refine .inl ⟨undef, w.setRow b (cur.toList.take off ++ vs ++ cur.toList.drop (off + vs.length)).toArray, .inr ⟨?_, rfl⟩, ⟨[], trivial, rfl, rfl, cur, ty, hh, setRow_heap w b cur _ ty (0, 0) hh⟩, ⟨rfl, rfl, rfl, by rw [setRow_size]; exact Nat.le_refl _, fun z hz hne => setRow_other _ _ _ _ hne⟩⟩
    have hvs : v.cells.size = n := by rw [← Array.length_toList, hv, hl]
    simp [execOp, bare, Instr.storeAt, Instr.sureAddr, storeVar, e1, e2, hs, hv, hvs, hst]
  · rintro w l w' hw _ ⟨rfl, cur, ty, h2, h3⟩ hs
    have := hk w w' cur ty hw h2 h3 hs
    rw [List.append_nil]
    exact this

/-- a store into an untracked block of which all cells are known -/
theorem den_storeP {t₀ type : TypeId} {x y : Operand} {sx sy : SV} {drawn : Bool} {t t' un : List Nat} {fs : Facts} {n : Nat} (b off : Nat) (v : Value) (vs cells : List Value)
    (hn : sizeT G.P t₀ = some n) (hx : sx.den ε = .pointer (some ⟨b, off, none⟩)) (hy : sy.den ε = v) (hv : v.cells.toList = vs) (hl : vs.length = n) (h1 : ∀ u ∈ vs, u.oneCell' = true)
    (hb : ∀ w, Shown G ε t fs wx w → HasBlk w (.pointer (some ⟨b, 0, none⟩)) cells) (hle : off + n ≤ cells.length)
    (hF : ∀ w, Shown G ε t fs wx w → FpOk G drawn X ε un w b)
    (hk : ∀ w w', Shown G ε t fs wx w → HasBlk w' (.pointer (some ⟨b, 0, none⟩)) (fillV cells off vs) → Kept (fun x => x = b) w w' →
      k.den G Λ ε w' (if drawn then ws else w') (if drawn then X else BlkIn ε t')) :
    (VC.gen (.store t₀ x y) type [(x, sx), (y, sy)] [] undefS [] drawn t t' un fs k).den G Λ ε wx ws X := by
  refine den_store b off v vs hn hx hy hv hl h1 (fun w hw => ?_) hF (fun w w' cur ty hw h2 h3 hs => ?_)
  · obtain ⟨b', ty, e, hh⟩ := hb w hw
    cases e
    exact ⟨_, ty, hh, by simpa using hle⟩
  · obtain ⟨b', ty', e, hh⟩ := hb w hw
    cases e
    rw [hh] at h2
    cases h2
    exact hk w w' hw ⟨b, _, rfl, h3⟩ hs

/-- a store into an element of a slice of one's own -/
theorem den_storeM {α : Type} {E : Enc α} {T : TypeId} {t₀ type : TypeId} {x y : Operand} {i sz off2 : Nat} {e : IE} {sy : SV} {drawn : Bool} {t t' un : List Nat} {fs : Facts} {n : Nat} (s : Value) (L : List α) (j : Nat) (a a' : α) (v : Value) (vs : List Value)
    (hn : sizeT G.P t₀ = some n) (hs : nth ε i = s) (hsz : E.sz = sz) (he : e.den ε = j) (hx : L[j]? = some a) (hy : sy.den ε = v) (hv : v.cells.toList = vs) (hl : vs.length = n) (h1 : ∀ u ∈ vs, u.oneCell' = true)
    (hle : off2 + n ≤ E.sz) (hpos : 0 < E.sz) (ha : E.enc a' = fillV (E.enc a) off2 vs)
    (hb : ∀ w, Shown G ε t fs wx w → Mine E T w s L)
    (hF : ∀ w, Shown G ε t fs wx w → ∀ g, s.ownBlock = some g → FpOk G drawn X ε un w g)
    (hex : ∃ w, Mine E T w s L)
    (hk : ∀ w w', Shown G ε t fs wx w → Mine E T w' s (L.set j a') → Kept (fun x => s.ownBlock = some x) w w' →
      k.den G Λ ε w' (if drawn then ws else w') (if drawn then X else BlkIn ε t')) :
    (VC.gen (.store t₀ x y) type [(x, .elt i 0 e sz off2), (y, sy)] [] undefS [] drawn t t' un fs k).den G Λ ε wx ws X := by
  obtain ⟨w0, hw0⟩ := hex
  have hj : j < L.length := (List.getElem?_eq_some_iff.1 hx).1
  have hne : L ≠ [] := by intro e; subst e; simp at hj
  obtain ⟨g, c, rfl⟩ : ∃ g c, s = .slice (some ⟨g, 0, none⟩) L.length c := by
    rcases hw0.forms with ⟨_, e⟩ | ⟨g, c, cur, ty, e, _⟩
    · exact absurd e hne
    · exact ⟨g, c, e⟩
  have own : ∀ {w : World}, Mine E T w (.slice (some ⟨g, 0, none⟩) L.length c) L → w.ownsRow 0 T E.sz (.slice (some ⟨g, 0, none⟩) L.length c) L.length (L.flatMap E.enc) := fun h => h.resolve_right fun h' => hne h'.1
  have hjs : j * E.sz + E.sz ≤ L.length * E.sz := by rw [← Nat.succ_mul]; exact Nat.mul_le_mul_right _ hj
  refine den_store g (j * E.sz + off2) v vs hn ?_ hy hv hl h1 (fun w hw => ?_) (fun w hw => hF w hw g rfl) (fun w w' cur ty hw h2 h3 hk' => ?_)
  · simp only [SV.den, hs, vaddr, addO, Option.map_some, he, Int.toNat_natCast, addr_add, Nat.zero_add, hsz]
  · obtain ⟨hlen, ⟨e, _⟩ | ⟨g', cap, cur, e, _, hh, hnc, hcm, hcs, ht⟩⟩ := own (hb w hw)
    · cases e
    · cases e
      refine ⟨cur, T, hh, ?_⟩
      rw [hcs]
      have := Nat.mul_le_mul_right E.sz hnc
      omega
  · obtain ⟨hlen, ⟨e, _⟩ | ⟨g', cap, cur, e, _, hh, hnc, hcm, hcs, ht⟩⟩ := own (hb w hw)
    · cases e
    cases e
    rw [hh] at h2
    cases h2
    refine hk w w' hw (.inl ⟨flatMap_length E _, .inr ⟨g, c, _, by rw [List.length_set], Nat.zero_le _, h3, by rw [List.length_set]; exact hnc, hcm, ?_, ?_⟩⟩) (hk'.mono fun b _ hb => by rw [hb]; rfl)
    · have h5 := Nat.mul_le_mul_right E.sz hnc
      have h6 : cur.toList.length = c * E.sz := by simpa using hcs
      rw [List.size_toArray, fillV_length (by rw [h6, hl]; omega), h6]
    · have h5 := Nat.mul_le_mul_right E.sz hnc
      rw [List.length_set, fillV_flatMap E ha (by rw [hl]; exact hle) L j hx, ← ht]
      have e1 : cur.toList = cur.toList.take (L.length * E.sz) ++ cur.toList.drop (L.length * E.sz) := (List.take_append_drop _ _).symm
      have hlt : (cur.toList.take (L.length * E.sz)).length = L.length * E.sz := by rw [List.length_take, show cur.toList.length = c * E.sz by simpa using hcs]; omega
      simp only [List.toList_toArray]
      conv => lhs; rw [e1]
      rw [fillV_append_left (by rw [hlt]; omega), List.take_left' (by rw [fillV_length (by rw [hlt]; omega), hlt])]

/-- what is read of an element of a slice that lies in no tracked block -/
theorem den_idx2 {i sz off2 : Nat} {e : IE} {bs : List Base} {t t' : List Nat} {fs : Facts} {α : Type} {E : Enc α} {L : List α} {w0 : World} (x : α) (j : Nat) (l : List Value) (hA : Arr E w0 (nth ε i) L) (hsz : E.sz = sz) (hpos : 0 < E.sz) (he : e.den ε = j) (hx : L[j]? = some x) (hl : Fits bs l) (hlc : ∀ (m : Nat) v, l[m]? = some v → (E.enc x)[off2 + m]? = some v)
    (hR : ∀ w, Shown G ε t fs wx w → Arr E w (nth ε i) L) (hX : ∀ ad, vaddr (nth ε i) = some ad → ¬ BlkIn ε t' ad.block)
    (hk : ∀ w, Shown G ε t fs wx w → k.den G Λ (ε ++ l) w w (BlkIn ε t')) :
    (VC.ob (.le (.lit 0) e) (VC.ob (.lt e (.len i)) (VC.ob (.not (.nil i)) (VC.start false t t' fs (VC.load (.elt i 0 e sz off2) bs k))))).den G Λ ε wx ws X := by
  have hj : j < L.length := (List.getElem?_eq_some_iff.1 hx).1
  obtain ⟨a, c, hs⟩ := hA.slice
  obtain ⟨ad0, had0, _⟩ := hA.elem hx hpos
  refine ⟨by simp [BE.den, IE.den, he], by simp [BE.den, IE.den, he, hs, vlen]; exact hj, ?_, ?_⟩
  · rw [hs] at had0; simp only [vaddr] at had0; subst had0; simp [BE.den, hs, vnil]
  · intro w hw
    obtain ⟨ad, had, hc⟩ := (hR w hw).elem hx hpos
    refine ⟨l, hl, ⟨(ad.add (j * E.sz)).add off2, ?_, ?_, fun m v hv => by rw [add_add]; exact hc _ v (hlc m v hv)⟩, hk w hw⟩
    · simp only [SV.den, had, addO, Option.map_some, he, hsz, Int.toNat_natCast]
      simp [Addr.add]
    · rw [add_block, add_block]
      exact hX ad had
/-- the obligations of an index into a slice -/
theorem den_obs {i : Nat} {e : IE} {α : Type} {E : Enc α} {L : List α} {w0 : World} (j : Nat) (hA : Arr E w0 (nth ε i) L) (hpos : 0 < E.sz) (he : e.den ε = j) (hj : j < L.length) (hk : k.den G Λ ε wx ws X) :
    (VC.ob (.le (.lit 0) e) (VC.ob (.lt e (.len i)) (VC.ob (.not (.nil i)) k))).den G Λ ε wx ws X := by
  obtain ⟨a, c, hs⟩ := hA.slice
  obtain ⟨ad0, had0, _⟩ := hA.elem (j := j) (x := L[j]) (by simp [hj]) hpos
  refine ⟨by simp [BE.den, IE.den, he], by simp [BE.den, IE.den, he, hs, vlen]; exact hj, ?_, hk⟩
  rw [hs] at had0; simp only [vaddr] at had0; subst had0; simp [BE.den, hs, vnil]
/-- a read of an element of an array in an untracked block -/
theorem den_lda {i off sz off2 : Nat} {e : IE} {bs : List Base} {t t' : List Nat} {fs : Facts} (j : Nat) (l cells : List Value) (he : e.den ε = j) (hl : Fits bs l) (hc : ∀ (m : Nat) v, l[m]? = some v → cells[off + j * sz + off2 + m]? = some v)
    (hR : ∀ w, Shown G ε t fs wx w → PtsTo w (nth ε i) cells) (hX : ∀ b, blkOf (nth ε i) = some b → ¬ BlkIn ε t' b)
    (hk : ∀ w, Shown G ε t fs wx w → k.den G Λ (ε ++ l) w w (BlkIn ε t')) :
    (VC.start false t t' fs (VC.load (.elt i off e sz off2) bs k)).den G Λ ε wx ws X := by
  intro w hw
  obtain ⟨b, hb, hcell⟩ := (hR w hw).at_
  refine ⟨l, hl, ⟨⟨b, off + j * sz + off2, none⟩, ?_, hX b (by rw [hb]; rfl), fun m v hv => ?_⟩, hk w hw⟩
  · simp only [SV.den, hb, vaddr, addO, Option.map_some, addr_add, Nat.zero_add, he, Int.toNat_natCast]
  · rw [addr_add]; exact hcell _ _ (hc m v hv)
theorem den_ldaD {i off sz off2 : Nat} {e : IE} {bs : List Base} (j : Nat) (l cells : List Value) (he : e.den ε = j) (hl : Fits bs l) (hc : ∀ (m : Nat) v, l[m]? = some v → cells[off + j * sz + off2 + m]? = some v)
    (hR : PtsTo ws (nth ε i) cells) (hX : ∀ b, blkOf (nth ε i) = some b → ¬ X b)
    (hk : k.den G Λ (ε ++ l) wx ws X) : (VC.load (.elt i off e sz off2) bs k).den G Λ ε wx ws X := by
  obtain ⟨b, hb, hcell⟩ := hR.at_
  refine ⟨l, hl, ⟨⟨b, off + j * sz + off2, none⟩, ?_, hX b (by rw [hb]; rfl), fun m v hv => ?_⟩, hk⟩
  · simp only [SV.den, hb, vaddr, addO, Option.map_some, addr_add, Nat.zero_add, he, Int.toNat_natCast]
  · rw [addr_add]; exact hcell _ _ (hc m v hv)
end

/-- a slice of one's own, when the world is shown -/
theorem Mine.shown {G : Ctx} {ε : List Value} {α : Type} {E : Enc α} {T : TypeId} {w w' : World} {s : Value} {L : List α} {t : List Nat} {fs : Facts} (ho : Mine E T w s L) (h : Shown G ε t fs w w') (ht : ∀ i ∈ t, i ∈ keys fs) (hap : Apart ε t s) : Mine E T w' s L := by
  by_cases hc : 0 < vcap s
  · exact ho.kept h.kept fun g hg => hap g hg hc
  · have := ho.cap
    obtain rfl : L = [] := List.eq_nil_of_length_eq_zero (by omega)
    rcases ho.forms with ⟨rfl, _⟩ | ⟨g, c, cur, ty, rfl, hh, _⟩
    · exact Mine.nil
    · have hc0 : c = 0 := by simp only [vcap] at hc; omega
      subst hc0
      by_cases hin : BlkIn ε t g
      · obtain ⟨i, hi, hb⟩ := hin
        have hf : ∀ {fs : Facts}, FactsAt ε w' fs → i ∈ keys fs → ∃ cur ty, w'.heap[g]? = some (.cells cur ty (0, 0)) := by
          intro fs
          induction fs with
          | nil => intro _ h; cases h
          | cons p fs ih =>
            obtain ⟨j, l⟩ := p
            intro hf hk
            obtain ⟨⟨b, ty, hb', hh'⟩, h2⟩ := hf
            simp only [keys, List.mem_cons] at hk
            rcases hk with rfl | hk
            · rw [hb'] at hb
              simp only [blkOf, vaddr, Option.map_some, Option.some.injEq] at hb
              subst hb
              exact ⟨_, _, hh'⟩
            · exact ih h2 hk
        obtain ⟨cur', ty', hh'⟩ := hf h.facts (ht i hi)
        exact .inr ⟨rfl, g, cur', ty', rfl, hh'⟩
      · exact ho.kept h.kept fun g' hg' => by cases hg'; exact hin
theorem Apart.mono {ε ε' : List Value} {t t' : List Nat} {s : Value} (h : Apart ε t s) (hm : ∀ g, BlkIn ε' t' g → BlkIn ε t g) : Apart ε' t' s := fun g hg hc hin => h g hg hc (hm g hin)
section
variable {G : Ctx} {Λ : Nat → List Value → World → Prop} {ε : List Value} {wx ws : World} {X : Nat → Prop} {k k' : VC}
/-- a drawn region in which all that is new may change -/
theorem den_startF {t t' : List Nat} {fs : Facts} (h : ∀ w, Shown G ε t fs wx w → k.den G Λ ε w w (fun b => w.heap.size ≤ b ∨ BlkIn ε t' b)) : (VC.start true t t' fs k).den G Λ ε wx ws X :=
  fun w hw => ⟨fun b => w.heap.size ≤ b ∨ BlkIn ε t' b, fun _ hb => .inr hb, h w hw⟩
end
theorem FactsAt.kept0 {ε : List Value} {w w' : World} : ∀ {fs : Facts}, FactsAt ε w fs → Same w w' → FactsAt ε w' fs
  | [], _, _ => trivial
  | (i, l) :: fs, h, hk => by
    obtain ⟨⟨b, ty, hb, hh⟩, h2⟩ := h
    exact ⟨⟨b, ty, hb, (hk.block b (Array.getElem?_eq_some_iff.1 hh).1 fun h => h).trans hh⟩, FactsAt.kept0 h2 hk⟩
end Go.Sx

/- Part ZC of a symbolic run of Go code by computation: its states, conditions and the proof that a condition that holds says what the function returns. No conditions of its own. -/
set_option linter.unusedVariables false
set_option linter.unusedSimpArgs false
namespace Go.Sx
open Go.RowKit

/-! what is read stays what it is where its blocks stay -/
theorem HasBlk.of_eq {w w' : World} {p : Value} {l : List Value} (h : HasBlk w p l) (he : ∀ b, blkOf p = some b → w'.heap[b]? = w.heap[b]?) : HasBlk w' p l := by
  obtain ⟨b, ty, rfl, hh⟩ := h
  exact ⟨b, ty, rfl, (he b rfl).trans hh⟩
theorem Mine.of_eq {α : Type} {E : Enc α} {T : TypeId} {w w' : World} {s : Value} {L : List α} (h : Mine E T w s L) (he : ∀ b, s.ownBlock = some b → w'.heap[b]? = w.heap[b]?) : Mine E T w' s L := by
  rcases h with ⟨hl, ⟨rfl, hn⟩ | ⟨g, cap, cur, rfl, hb, hh, h1, h2, h3, h4⟩⟩ | ⟨rfl, g, cur, ty, rfl, hh⟩
  · exact .inl ⟨hl, .inl ⟨rfl, hn⟩⟩
  · exact .inl ⟨hl, .inr ⟨g, cap, cur, rfl, hb, (he g rfl).trans hh, h1, h2, h3, h4⟩⟩
  · exact .inr ⟨rfl, g, cur, ty, rfl, (he g rfl).trans hh⟩
theorem PtsTo.of_eq {w w' : World} {p : Value} {l : List Value} (h : PtsTo w p l) (he : ∀ b, blkOf p = some b → w'.heap[b]? = w.heap[b]?) : PtsTo w' p l := by
  obtain ⟨b, rfl, hc⟩ := h.at_
  exact ⟨b, rfl, fun m v hv => (World.cell?_of_block (he b rfl)).trans (hc m v hv)⟩
theorem Arr.of_eq {α : Type} {E : Enc α} {w w' : World} {s : Value} {L : List α} (h : Arr E w s L) (he : ∀ ad, vaddr s = some ad → w'.heap[ad.block]? = w.heap[ad.block]?) : Arr E w' s L :=
  ⟨h.1, h.2, fun j x hx => let ⟨ad, h1, h2⟩ := h.3 j x hx; ⟨ad, h1, (World.cell?_of_block (by rw [add_block]; exact he ad h1)).trans h2⟩⟩

section
variable {G : Ctx} {Λ : Nat → List Value → World → Prop} {ε : List Value} {wx ws : World} {X : Nat → Prop} {k k' : VC}
theorem shown_same {fs : Facts} {w : World} (h : Shown G ε [] fs wx w) : Same wx w := h.kept.mono fun _ _ ⟨i, hi, _⟩ => by simp at hi
theorem shown_new {t : List Nat} {fs : Facts} {w : World} (h : Shown G ε t fs wx w) (hn : ∀ b, BlkIn ε t b → wx.heap.size ≤ b) : Same wx w := h.kept.mono fun k hk hb => absurd (hn k hb) (by omega)
/-- a call of yield -/
theorem den_yield {fo : Operand} {argTypes : Array TypeId} {cl : Call} {type : TypeId} {fsv : SV} {vals : List (Operand × SV)} {n : Nat} {drawn : Bool} {t t' un : List Nat} {fs : Facts}
    (hcl : cl = { callee := .value fo, args := (vals.map (·.1)).toArray, argTypes := argTypes }) {l : Nat} (hf : fsv.den ε = .func (.yield l) #[] #[]) (Fp : World → Nat → Prop) (R : World → Bool → World → Prop)
    (hn : ∀ v, nth (ε ++ [.bool v]) n = .bool v)
    (hF : ∀ w, Shown G ε t fs wx w → ∀ b, Fp w b → b < w.heap.size → FpOk G drawn X ε un w b)
    (hc : ∀ w, Shown G ε t fs wx w → YieldAt Fence.wide 0 G.P l (vals.map (fun p => p.2.den ε)).toArray w (fun e w' => ∃ v, e = .returned (.bool v) ∧ R w v w' ∧ Kept (Fp w) w w'))
    (hk : ∀ w v w', Shown G ε t fs wx w → R w v w' → Kept (Fp w) w w' → k.den G Λ (ε ++ [.bool v]) w' (if drawn then ws else w') (if drawn then X else BlkIn ε t')) :
    (VC.gen (.call cl) type ((fo, fsv) :: vals) [Base.bool] (.bool (.var n)) [] drawn t t' un fs k).den G Λ ε wx ws X := by
  subst hcl
  intro w hw
  refine ⟨fun l w' => ∃ v, l = [.bool v] ∧ R w v w', Fp w, fun ρ hρ => ?_, hF w hw, allB_intro ?_⟩
  · have h1 : ρ fo = .func (.yield l) #[] #[] := by rw [hρ.1, hf]
    have h2 : (vals.map (·.1)).toArray.map ρ = (vals.map (fun p => p.2.den ε)).toArray := by
      have : ∀ l : List (Operand × SV), ValsAt ε ρ l → l.map (fun p => ρ p.1) = l.map (fun p => p.2.den ε) := by
        intro l
        induction l with
        | nil => intro _; rfl
        | cons p l ih => intro h; simp only [List.map_cons]; rw [h.1, ih h.2]
      apply Array.ext'
      simp only [Array.toList_map, List.map_map]
      exact this vals hρ.2
    obtain ⟨fn, tmps, assign, body, hr, hround⟩ := hc w hw
    refine .inr (.inl ⟨l, fn, tmps, assign, body, w, ?_, hround.mono ?_⟩)
    · simp only [execOp, bare, resolve, h1, Sem.run_bind]
      simp [Deferred.ofValue, h2, invoke]
      simpa using hr
    · rintro e w' ⟨v, rfl, hR, hk'⟩
      exact ⟨_, rfl, [.bool v], ⟨⟨_, rfl⟩, trivial⟩, by simp only [SV.den, BE.den, hn]; rfl, ⟨v, rfl, hR⟩, hk', trivial⟩
  · rintro l hl w' ⟨v, rfl, hR⟩ hsame
    have := hk w v w' hw hR hsame
    cases drawn <;> exact this
end
end Go.Sx
