/- The methods without a device, and the law FlashNone. No conditions beyond those that each theorem names. -/
import Derived.Test.YtppbapnibpeolaaP
import Derived.Test.YtppbapnibpeolaaTE
set_option maxRecDepth 100000
set_option maxHeartbeats 4000000
set_option linter.unusedVariables false
set_option linter.unusedSimpArgs false
namespace Go.Proofs.Ytppbapnibpeolaa
open Go.Sx

abbrev nilS : Value := .slice none 0 0
section
variable {w : World} {v : Value}
end

/-! comparisons of geometries -/
theorem un23 : Try.prog.underlying 23 = some (.struct (Try.prog.fieldsOf 23)) := by kernel_rfl
theorem sh23 : Try.prog.stoodInHeld 23 = false := by kernel_rfl
theorem gu23 : Try.prog.eqGuardType Try.prog.depth 23 = false := by kernel_rfl
theorem ag3 : isAggT Try.prog 3 = some false := by kernel_rfl
theorem fields23 : ∃ f g h i : Field, (Try.prog.fieldsOf 23).toList = [f, g, h, i] ∧ (f.type = 3 ∧ g.type = 3 ∧ h.type = 3 ∧ i.type = 3) ∧ (f.offset = 0 ∧ g.offset = 1 ∧ h.offset = 2 ∧ i.offset = 3) ∧ f.name ≠ "_" ∧ g.name ≠ "_" ∧ h.name ≠ "_" ∧ i.name ≠ "_" :=
  ⟨(Try.prog.fieldsOf 23).toList[0]!, (Try.prog.fieldsOf 23).toList[1]!, (Try.prog.fieldsOf 23).toList[2]!, (Try.prog.fieldsOf 23).toList[3]!, by kernel_rfl, ⟨by kernel_rfl, by kernel_rfl, by kernel_rfl, by kernel_rfl⟩, ⟨by kernel_rfl, by kernel_rfl, by kernel_rfl, by kernel_rfl⟩, by decide +kernel, by decide +kernel, by decide +kernel, by decide +kernel⟩
def eqG (x y : Geo) : Bool := decide (x.b = y.b) && (decide (x.p = y.p) && (decide (x.s = y.s) && decide (x.e = y.e)))
theorem flatG (x y : Geo) : (∀ f ∈ (Try.prog.fieldsOf 23).toList, FlatField Try.prog #[.int .i64 x.b, .int .i64 x.p, .int .i64 x.s, .int .i64 x.e] #[.int .i64 y.b, .int .i64 y.p, .int .i64 y.s, .int .i64 y.e] f) ∧
    ((Try.prog.fieldsOf 23).toList.all fun f => eqV (#[Value.int .i64 x.b, .int .i64 x.p, .int .i64 x.s, .int .i64 x.e][f.offset]?.getD undef) (#[Value.int .i64 y.b, .int .i64 y.p, .int .i64 y.s, .int .i64 y.e][f.offset]?.getD undef)) = eqG x y := by
  obtain ⟨f, g, h, i, hf, ⟨h1, h2, h3, h4⟩, ⟨k1, k2, k3, k4⟩, j1, j2, j3, j4⟩ := fields23
  rw [hf]
  constructor
  · intro z hz
    simp only [List.mem_cons, List.not_mem_nil, or_false] at hz
    rcases hz with rfl | rfl | rfl | rfl
    · exact ⟨j1, by rw [h1]; exact ag3, .inl ⟨.i64, x.b, y.b, by rw [h1]; exact u3, by rw [k1]; rfl, by rw [k1]; rfl⟩⟩
    · exact ⟨j2, by rw [h2]; exact ag3, .inl ⟨.i64, x.p, y.p, by rw [h2]; exact u3, by rw [k2]; rfl, by rw [k2]; rfl⟩⟩
    · exact ⟨j3, by rw [h3]; exact ag3, .inl ⟨.i64, x.s, y.s, by rw [h3]; exact u3, by rw [k3]; rfl, by rw [k3]; rfl⟩⟩
    · exact ⟨j4, by rw [h4]; exact ag3, .inl ⟨.i64, x.e, y.e, by rw [h4]; exact u3, by rw [k4]; rfl, by rw [k4]; rfl⟩⟩
  · simp [k1, k2, k3, k4, eqV, eqG]
theorem eqG_refl (x : Geo) : eqG x x = true := by simp [eqG]

/-! calls as arguments -/
structure Av where
  wh : Int
  bl : Int
  pg : Int
  sd : Value
  ss : Value
structure Ac where
  wh : Int
  bl : Int
  pg : Int
  D : List Int
  Sp : List Int
def Av.cells (v : Av) : List Value := [.int .i64 v.wh, .int .i64 v.bl, .int .i64 v.pg, v.sd, v.ss]
def avE : Enc Av := ⟨Av.cells, 5, fun _ => rfl⟩
/-- bytes of an argument: below lo -/
structure Gv (lo : Nat) (w : World) (s : Value) (D : List Int) : Prop where
  src : Src w s D
  lt : D ≠ [] → ∀ ad, vaddr s = some ad → ad.block < lo
theorem Gv.kept {lo : Nat} {w w' : World} {s : Value} {D : List Int} {M : Nat → Prop} (h : Gv lo w s D) (hk : Kept M w w') (hM : ∀ y, y < lo → ¬ M y) : Gv lo w' s D := by
  refine ⟨⟨?_, h.src.2⟩, h.lt⟩
  by_cases hD : D = []
  · subst hD
    exact ⟨h.src.1.1, h.src.1.2, fun j x hx => by simp at hx⟩
  · exact h.src.1.kept hk fun ad had _ => hM _ (h.lt hD ad had)
theorem Gv.same {lo : Nat} {w w' : World} {s : Value} {D : List Int} (h : Gv lo w s D) (hk : Same w w') : Gv lo w' s D := h.kept hk fun _ _ h => h
structure AvAt (lo : Nat) (w : World) (v : Av) (a : Ac) : Prop where
  wh : v.wh = a.wh
  bl : v.bl = a.bl
  pg : v.pg = a.pg
  d : Gv lo w v.sd a.D
  s : Gv lo w v.ss a.Sp
theorem AvAt.kept {lo : Nat} {w w' : World} {v : Av} {a : Ac} {M : Nat → Prop} (h : AvAt lo w v a) (hs : Kept M w w') (hM : ∀ y, y < lo → ¬ M y) : AvAt lo w' v a := ⟨h.wh, h.bl, h.pg, h.d.kept hs hM, h.s.kept hs hM⟩
theorem AvAt.same {lo : Nat} {w w' : World} {v : Av} {a : Ac} (h : AvAt lo w v a) (hs : Same w w') : AvAt lo w' v a := h.kept hs fun _ _ h => h
structure AvsAt (lo : Nat) (w : World) (L : List Av) (A : List Ac) : Prop where
  len : L.length = A.length
  at_ : ∀ (i : Nat) v a, L[i]? = some v → A[i]? = some a → AvAt lo w v a
theorem AvsAt.kept {lo : Nat} {w w' : World} {L : List Av} {A : List Ac} {M : Nat → Prop} (h : AvsAt lo w L A) (hs : Kept M w w') (hM : ∀ y, y < lo → ¬ M y) : AvsAt lo w' L A := ⟨h.len, fun i v a h1 h2 => (h.at_ i v a h1 h2).kept hs hM⟩
theorem AvsAt.same {lo : Nat} {w w' : World} {L : List Av} {A : List Ac} (h : AvsAt lo w L A) (hs : Same w w') : AvsAt lo w' L A := h.kept hs fun _ _ h => h
def okA (a : Ac) : Bool := decide (a.D.length ≤ 100) && decide (a.Sp.length ≤ 100)
def fewB (A : List Ac) (m : Int) : Bool := decide ((A.length : Int) ≤ m) && A.all okA
theorem c9 (s : Value) (L : List Av) (A : List Ac) (m : Int) (w : World) (hs : Arr avE w s L) {lo : Nat} (hA : AvsAt lo w L A) (hl : A.length < 9223372036854775808) : Gives Try.prog 9 [s, .int .i64 m] w (.bool (fewB A m)) := by
  obtain ⟨a, c, rfl⟩ := hs.slice
  have hle := hA.len
  refine gives mix t9 rfl rfl (ε := [.slice a L.length c, .int .i64 m]) ⟨⟨_, _, _, rfl⟩, ⟨_, rfl⟩, trivial⟩ (den_splitLt (fun h1 => ?_) (fun h1 => ?_))
  · have h1' : m < (L.length : Int) := h1
    have e : fewB A m = false := by simp [fewB]; omega
    rw [e]
    exact den_leaf rfl
  have h1' : (L.length : Int) ≤ m := h1
  refine den_for L.length (fun j w' => ∀ (i : Nat) x, i < j → A[i]? = some x → okA x = true) ⟨rfl, fun w _ i y hi => by omega⟩ ?_
  intro j w1 hj hI hk hfa
  refine den_norm (by simp only [List.cons_append, List.nil_append]; rfl) (den_splitLt (fun hlt => ?_) (fun hge => ?_))
  · have hlt' : j < L.length := by simpa [IE.den, nth, vint, vlen] using hlt
    obtain ⟨v, hv⟩ : ∃ v, L[j]? = some v := ⟨_, List.getElem?_eq_getElem hlt'⟩
    obtain ⟨x, hx⟩ : ∃ x, A[j]? = some x := ⟨_, List.getElem?_eq_getElem (by omega)⟩
    have ha := hA.at_ j v x hv hx
    obtain ⟨da, dc, ed⟩ := ha.d.src.1.slice
    obtain ⟨sa, sc, es⟩ := ha.s.src.1.slice
    have bad : okA x = false → fewB A m = false := fun h => by
      have : A.all okA = false := List.all_eq_false.2 ⟨x, List.mem_of_getElem? hx, by simp [h]⟩
      simp [fewB, this]
    refine den_idx2 (E := avE) (L := L) v j [.slice da x.D.length dc] (hs.same hk) rfl (by decide) rfl hv ⟨⟨_, _, _, rfl⟩, trivial⟩ (cellk _ 3 _ (by simp only [avE, Av.cells, ed]; rfl)) (fun w2 h2 => (hs.same hk).same (shown_same h2)) (fun ad had hin => by simp [BlkIn, nth, blkOf, vaddr] at hin) (fun w2 h2 => den_norm (by simp only [List.cons_append, List.nil_append]; rfl) (den_splitLt (fun h3 => ?_) (fun h3 => ?_)))
    · have h3' : (100 : Int) < (x.D.length : Int) := h3
      rw [bad (by simp [okA]; omega)]
      exact den_leaf_ne (by decide) (den_leaf rfl)
    have h3' : (x.D.length : Int) ≤ 100 := h3
    refine den_ob (by simp [BE.den, IE.den, nth, vint]) (den_ob (by simp [BE.den, IE.den, nth, vint, vlen]; omega) ?_)
    refine den_ldi (E := avE) (L := L) v j [.slice sa x.Sp.length sc] rfl (by decide) rfl hv ⟨⟨_, _, _, rfl⟩, trivial⟩ (cellk _ 4 _ (by simp only [avE, Av.cells, es]; rfl)) (fun w3 h4 => ((hs.same hk).same (shown_same h2)).same (shown_same h4)) (fun ad had hin => by simp [BlkIn, nth, blkOf, vaddr] at hin) (fun w3 h4 => den_norm (by simp only [List.cons_append, List.nil_append]; rfl) (den_splitLt (fun h5 => ?_) (fun h5 => ?_)))
    · have h5' : (100 : Int) < (x.Sp.length : Int) := h5
      rw [bad (by simp [okA]; omega)]
      exact den_leaf_ne (by decide) (den_leaf rfl)
    have h5' : (x.Sp.length : Int) ≤ 100 := h5
    refine den_ob64 (by simp only [IE.den, nth, vint]; omega) (den_next rfl hlt' fun w5 _ i y hi hy => ?_)
    by_cases hij : i = j
    · subst hij
      rw [hx] at hy
      cases hy
      simp [okA]
      omega
    · exact hI i y (by omega) hy
  · have hge' : L.length ≤ j := by simpa [IE.den, nth, vint, vlen] using hge
    have e : fewB A m = true := by
      have : A.all okA = true := List.all_eq_true.2 fun x hx => by
        obtain ⟨i, hi⟩ := List.getElem?_of_mem hx
        have := (List.getElem?_eq_some_iff.1 hi).1
        exact hI i x (by omega) hi
      simp [fewB, this]
      omega
    rw [e]
    exact den_leaf_ne (by decide) (den_leaf rfl)
end Go.Proofs.Ytppbapnibpeolaa
