/- The methods without a device, and the law FlashNone. No conditions beyond those that each theorem names. -/
import Derived.Test.YtppbapnibpeolaaP
import Derived.Test.YtppbapnibpeolaaTE
set_option maxRecDepth 100000
set_option maxHeartbeats 4000000
set_option linter.unusedVariables false
set_option linter.unusedSimpArgs false
namespace Go.Proofs.Ytppbapnibpeolaa
open Go.Sx

abbrev nilS : Value := .slice none 0 0
/-- no device: nil, or a pointer to zeros -/
def NoDev (w : World) (v : Value) : Prop := v = .pointer none ∨ ∃ b, v = pt b ∧ HasBlk w (pt b) [.int .i64 0, .int .i64 0, .int .i64 0, .int .i64 0, .map none, nilS, .int .i64 0, .int .i64 0, .int .i64 0, .bool false]
theorem NoDev.same {w w' : World} {v : Value} (h : NoDev w v) (hs : Same w w') : NoDev w' v := by
  rcases h with h | ⟨b, rfl, hp⟩
  · exact .inl h
  · exact .inr ⟨b, rfl, hp.keptA hs fun h => h⟩
theorem NoDev.ptr {w : World} {v : Value} (h : NoDev w v) : ∃ r, v = .pointer r := by
  rcases h with rfl | ⟨b, rfl, _⟩ <;> exact ⟨_, rfl⟩
section
variable {w : World} {v : Value}
theorem n33 (h : NoDev w v) : Gives Try.prog 33 [v] w (.bool true) := by
  rcases h with rfl | ⟨b, rfl, hp⟩
  · exact gives mix t33 rfl rfl (ε := [.pointer none]) ⟨⟨_, rfl⟩, trivial⟩ (den_split_true rfl (den_leaf rfl))
  · refine gives mix t33 rfl rfl (ε := [pt b]) ⟨⟨_, rfl⟩, trivial⟩ (den_split_false rfl ?_)
    exact den_ldp [nilS] _ ⟨⟨_, _, _, rfl⟩, trivial⟩ (cellk _ 5 _ rfl) (fun w1 h1 => (hp.keptA (shown_same h1) fun h => h).pts) (fun _ _ => by simp [BlkIn]) fun w1 h1 => den_norm (by simp only [List.cons_append, List.nil_append]; rfl) (den_leaf rfl)
theorem n13 (h : NoDev w v) (B A : Int) : Gives Try.prog 13 [v, .int .i64 B, .int .i64 A] w (.tuple #[nilS, nilS, .int .i64 1]) := by
  obtain ⟨r, rfl⟩ := h.ptr
  refine gives mix t13 rfl rfl (ε := [.pointer r, .int .i64 B, .int .i64 A]) ⟨⟨_, rfl⟩, ⟨_, rfl⟩, ⟨_, rfl⟩, trivial⟩ (den_call_bool (b := true) (fun w1 h1 => n33 (h.same h1.base)) rfl (fun w1 w2 h1 h2 => den_norm (by simp only [List.cons_append, List.nil_append]; rfl) (den_split_true rfl (den_leaf rfl))))
theorem n19 (h : NoDev w v) (B A : Int) (s1 s2 : Value) (h1 : ∃ a n c, s1 = .slice a n c) (h2 : ∃ a n c, s2 = .slice a n c) : Gives Try.prog 19 [v, .int .i64 B, .int .i64 A, s1, s2] w (.int .i64 1) := by
  obtain ⟨r, rfl⟩ := h.ptr
  obtain ⟨_, _, _, rfl⟩ := h1
  obtain ⟨_, _, _, rfl⟩ := h2
  refine gives mix t19 rfl rfl (ε := [.pointer r, .int .i64 B, .int .i64 A, .slice _ _ _, .slice _ _ _]) ⟨⟨_, rfl⟩, ⟨_, rfl⟩, ⟨_, rfl⟩, ⟨_, _, _, rfl⟩, ⟨_, _, _, rfl⟩, trivial⟩ (den_call_bool (b := true) (fun w1 h1 => n33 (h.same h1.base)) rfl (fun w1 w2 h1 h2 => den_norm (by simp only [List.cons_append, List.nil_append]; rfl) (den_split_true rfl (den_leaf rfl))))
theorem n20 (h : NoDev w v) (B : Int) : Gives Try.prog 20 [v, .int .i64 B] w (.int .i64 1) := by
  obtain ⟨r, rfl⟩ := h.ptr
  refine gives mix t20 rfl rfl (ε := [.pointer r, .int .i64 B]) ⟨⟨_, rfl⟩, ⟨_, rfl⟩, trivial⟩ (den_call_bool (b := true) (fun w1 h1 => n33 (h.same h1.base)) rfl (fun w1 w2 h1 h2 => den_norm (by simp only [List.cons_append, List.nil_append]; rfl) (den_split_true rfl (den_leaf rfl))))
theorem n21 (h : NoDev w v) (o c : Int) : Gives Try.prog 21 [v, .int .i64 o, .int .i64 c] w (.int .i64 1) := by
  obtain ⟨r, rfl⟩ := h.ptr
  refine gives mix t21 rfl rfl (ε := [.pointer r, .int .i64 o, .int .i64 c]) ⟨⟨_, rfl⟩, ⟨_, rfl⟩, ⟨_, rfl⟩, trivial⟩ (den_call_bool (b := true) (fun w1 h1 => n33 (h.same h1.base)) rfl (fun w1 w2 h1 h2 => den_norm (by simp only [List.cons_append, List.nil_append]; rfl) (den_split_true rfl (den_leaf rfl))))
theorem n22 (h : NoDev w v) : Gives Try.prog 22 [v] w (.int .i64 1) := by
  obtain ⟨r, rfl⟩ := h.ptr
  refine gives mix t22 rfl rfl (ε := [.pointer r]) ⟨⟨_, rfl⟩, trivial⟩ (den_call_bool (b := true) (fun w1 h1 => n33 (h.same h1.base)) rfl (fun w1 w2 h1 h2 => den_norm (by simp only [List.cons_append, List.nil_append]; rfl) (den_split_true rfl (den_leaf rfl))))
theorem n23 (h : NoDev w v) : Gives Try.prog 23 [v] w (.bool false) := by
  obtain ⟨r, rfl⟩ := h.ptr
  refine gives mix t23 rfl rfl (ε := [.pointer r]) ⟨⟨_, rfl⟩, trivial⟩ (den_call_bool (b := true) (fun w1 h1 => n33 (h.same h1.base)) rfl (fun w1 w2 h1 h2 => den_norm (by simp only [List.cons_append, List.nil_append]; rfl) (den_split_false rfl (den_leaf rfl))))
theorem n24 (h : NoDev w v) : Gives Try.prog 24 [v] w (.agg #[.int .i64 0, .int .i64 0, .int .i64 0, .int .i64 0]) := by
  obtain ⟨r, rfl⟩ := h.ptr
  refine gives mix t24 rfl rfl (ε := [.pointer r]) ⟨⟨_, rfl⟩, trivial⟩ (?_)
  refine den_blk fun b0 k0 _ _ => den_norm (by simp only [List.cons_append, List.nil_append]; rfl) ?_
  exact (den_call_bool (b := true) (fun w1 h1 => n33 (h.same h1.base)) rfl (fun w1 w2 h1 h2 => den_norm (by simp only [List.cons_append, List.nil_append]; rfl) (den_split_true rfl (den_leaf rfl))))
theorem n25 (h : NoDev w v) : Gives Try.prog 25 [v] w (.int .i64 0) := by
  obtain ⟨r, rfl⟩ := h.ptr
  refine gives mix t25 rfl rfl (ε := [.pointer r]) ⟨⟨_, rfl⟩, trivial⟩ (den_call_bool (b := true) (fun w1 h1 => n33 (h.same h1.base)) rfl (fun w1 w2 h1 h2 => den_norm (by simp only [List.cons_append, List.nil_append]; rfl) (den_split_true rfl (den_leaf rfl))))
theorem n26 (h : NoDev w v) (B : Int) : Gives Try.prog 26 [v, .int .i64 B] w (.int .i64 0) := by
  obtain ⟨r, rfl⟩ := h.ptr
  refine gives mix t26 rfl rfl (ε := [.pointer r, .int .i64 B]) ⟨⟨_, rfl⟩, ⟨_, rfl⟩, trivial⟩ (den_call_bool (b := true) (fun w1 h1 => n33 (h.same h1.base)) rfl (fun w1 w2 h1 h2 => den_norm (by simp only [List.cons_append, List.nil_append]; rfl) (den_split_true rfl (den_leaf rfl))))
theorem n28 (h : NoDev w v) (B A : Int) : Gives Try.prog 28 [v, .int .i64 B, .int .i64 A] w (.int .i64 0) := by
  obtain ⟨r, rfl⟩ := h.ptr
  refine gives mix t28 rfl rfl (ε := [.pointer r, .int .i64 B, .int .i64 A]) ⟨⟨_, rfl⟩, ⟨_, rfl⟩, ⟨_, rfl⟩, trivial⟩ (den_call_bool (b := true) (fun w1 h1 => n33 (h.same h1.base)) rfl (fun w1 w2 h1 h2 => den_norm (by simp only [List.cons_append, List.nil_append]; rfl) (den_split_true rfl (den_leaf rfl))))
theorem n14 (h : NoDev w v) : Gives Try.prog 14 [v] w (.pointer none) := by
  obtain ⟨r, rfl⟩ := h.ptr
  refine gives mix t14 rfl rfl (ε := [.pointer r]) ⟨⟨_, rfl⟩, trivial⟩ (den_call_bool (b := true) (fun w1 h1 => n33 (h.same h1.base)) rfl (fun w1 w2 h1 h2 => den_norm (by simp only [List.cons_append, List.nil_append]; rfl) (den_split_true rfl (den_leaf rfl))))
theorem n17 (h : NoDev w v) : GivesR Try.prog 17 [v] w (fun v w' => SeqAt Try.prog w.heap.size w'.heap.size w' v (ysW [])) := by
  obtain ⟨r, rfl⟩ := h.ptr
  refine givesR mix t17 rfl rfl (ε := [.pointer r]) ⟨⟨_, rfl⟩, trivial⟩ (den_blk fun b1 k1 _ _ => den_norm (by simp only [List.cons_append, List.nil_append]; rfl) ?_)
  have z1 : w.heap.size ≤ b1 := k1
  refine den_call_bool (b := true) (fun w1 h1 => n33 (h.same (shown_same h1))) rfl (fun w1 w2 h1 h2 => den_norm (by simp only [List.cons_append, List.nil_append]; rfl) (den_split_false rfl ?_))
  refine den_leafR _ rfl fun w6 h6 => ?_
  have hc6 : HasBlk w6 (pt b1) [nilS] := h6.facts.1
  exact seqAt w w6 b1 nilS [] hc6 Mine.nil (by simp) z1 fun y hy => by cases hy
theorem n27 (h : NoDev w v) (B : Int) : Gives Try.prog 27 [v, .int .i64 B] w (.int .i64 0) := by
  obtain ⟨r, rfl⟩ := h.ptr
  refine Runs.gives ?_
  refine runs mix t27 rfl rfl (ε := [.pointer r, .int .i64 B]) (heap := []) (w := w) (M := fun _ => False) (R := fun v _ => v = .int .i64 0) ⟨⟨_, rfl⟩, ⟨_, rfl⟩, trivial⟩ trivial (by simp [keys]) (by simp [keys]) (by simp [keys]) ?_
  refine den_blk fun b2 k2 _ _ => den_norm (by simp only [List.cons_append, List.nil_append]; rfl) (den_blk fun b3 k3 _ _ => den_norm (by simp only [List.cons_append, List.nil_append]; rfl) ?_)
  refine den_callR (fun w5 l w6 => ∃ v, l = [v] ∧ SeqAt Try.prog w5.heap.size w6.heap.size w6 v (ysW [])) (fun wx hx => ?_) ?_
  · refine (n17 (h.same (shown_same hx))).mono fun v w' hs => ⟨[v], ?_, ?_, v, rfl, hs⟩
    · obtain ⟨g, caps, Ft, rfl, _⟩ := hs.ex
      exact ⟨rfl, trivial⟩
    · rfl
  rintro wn l wo hn _ ⟨fv, rfl, hsq⟩ hno
  have l2 : b2 < wn.heap.size := hn.lt (i := 2) (by simp [keys]) rfl
  have l3 : b3 < wn.heap.size := hn.lt (i := 3) (by simp [keys]) rfl
  refine den_norm (by simp only [List.cons_append, List.nil_append]; rfl) (den_range [] (fun k l _ => l = []) wn.heap.size wo.heap.size ?_ ?_ ?_ ?_ ?_ ?_)
  · intro x hx
    simp at hx
  · intro y hy
    simp [BlkIn, nth, blkOf, vaddr] at hy
    omega
  · intro wx hx
    exact hsq.kept (M := fun _ => False) (shown_same hx) fun _ _ _ _ h => h
  · intro wx hx
    rfl
  · intro wx Ft hx k y hy
    simp at hy
  · rintro wx hx l hl wy wz rfl hq hk2 hfa2
    exact den_norm (by simp only [List.cons_append, List.nil_append]; rfl) (den_leafMA _ rfl fun _ _ _ _ => rfl)
end

/-! comparisons of geometries -/
theorem un23 : Try.prog.underlying 23 = some (.struct (Try.prog.fieldsOf 23)) := by kernel_rfl
theorem sh23 : Try.prog.stoodInHeld 23 = false := by kernel_rfl
theorem gu23 : Try.prog.eqGuardType Try.prog.depth 23 = false := by kernel_rfl
theorem ag3 : isAggT Try.prog 3 = some false := by kernel_rfl
theorem fields23 : ∃ f g h i : Field, (Try.prog.fieldsOf 23).toList = [f, g, h, i] ∧ (f.type = 3 ∧ g.type = 3 ∧ h.type = 3 ∧ i.type = 3) ∧ (f.offset = 0 ∧ g.offset = 1 ∧ h.offset = 2 ∧ i.offset = 3) ∧ f.name ≠ "_" ∧ g.name ≠ "_" ∧ h.name ≠ "_" ∧ i.name ≠ "_" :=
  ⟨(Try.prog.fieldsOf 23).toList[0]!, (Try.prog.fieldsOf 23).toList[1]!, (Try.prog.fieldsOf 23).toList[2]!, (Try.prog.fieldsOf 23).toList[3]!, by kernel_rfl, ⟨by kernel_rfl, by kernel_rfl, by kernel_rfl, by kernel_rfl⟩, ⟨by kernel_rfl, by kernel_rfl, by kernel_rfl, by kernel_rfl⟩, by decide +kernel, by decide +kernel, by decide +kernel, by decide +kernel⟩
def eqG (x y : Geo) : Bool := decide (x.b = y.b) && (decide (x.p = y.p) && (decide (x.s = y.s) && decide (x.e = y.e)))
theorem flatG (x y : Geo) : (∀ f ∈ (Try.prog.fieldsOf 23).toList, FlatField Try.prog #[.int .i64 x.b, .int .i64 x.p, .int .i64 x.s, .int .i64 x.e] #[.int .i64 y.b, .int .i64 y.p, .int .i64 y.s, .int .i64 y.e] f) ∧
    ((Try.prog.fieldsOf 23).toList.all fun f => eqV (#[Value.int .i64 x.b, .int .i64 x.p, .int .i64 x.s, .int .i64 x.e][f.offset]?.getD undef) (#[Value.int .i64 y.b, .int .i64 y.p, .int .i64 y.s, .int .i64 y.e][f.offset]?.getD undef)) = eqG x y := by
  obtain ⟨f, g, h, i, hf, ⟨h1, h2, h3, h4⟩, ⟨k1, k2, k3, k4⟩, j1, j2, j3, j4⟩ := fields23
  rw [hf]
  constructor
  · intro z hz
    simp only [List.mem_cons, List.not_mem_nil, or_false] at hz
    rcases hz with rfl | rfl | rfl | rfl
    · exact ⟨j1, by rw [h1]; exact ag3, .inl ⟨.i64, x.b, y.b, by rw [h1]; exact u3, by rw [k1]; rfl, by rw [k1]; rfl⟩⟩
    · exact ⟨j2, by rw [h2]; exact ag3, .inl ⟨.i64, x.p, y.p, by rw [h2]; exact u3, by rw [k2]; rfl, by rw [k2]; rfl⟩⟩
    · exact ⟨j3, by rw [h3]; exact ag3, .inl ⟨.i64, x.s, y.s, by rw [h3]; exact u3, by rw [k3]; rfl, by rw [k3]; rfl⟩⟩
    · exact ⟨j4, by rw [h4]; exact ag3, .inl ⟨.i64, x.e, y.e, by rw [h4]; exact u3, by rw [k4]; rfl, by rw [k4]; rfl⟩⟩
  · simp [k1, k2, k3, k4, eqV, eqG]
theorem eqG_refl (x : Geo) : eqG x x = true := by simp [eqG]

/-! calls as arguments -/
structure Av where
  wh : Int
  bl : Int
  pg : Int
  sd : Value
  ss : Value
structure Ac where
  wh : Int
  bl : Int
  pg : Int
  D : List Int
  Sp : List Int
def Av.cells (v : Av) : List Value := [.int .i64 v.wh, .int .i64 v.bl, .int .i64 v.pg, v.sd, v.ss]
def avE : Enc Av := ⟨Av.cells, 5, fun _ => rfl⟩
/-- bytes of an argument: below lo -/
structure Gv (lo : Nat) (w : World) (s : Value) (D : List Int) : Prop where
  src : Src w s D
  lt : D ≠ [] → ∀ ad, vaddr s = some ad → ad.block < lo
theorem Gv.kept {lo : Nat} {w w' : World} {s : Value} {D : List Int} {M : Nat → Prop} (h : Gv lo w s D) (hk : Kept M w w') (hM : ∀ y, y < lo → ¬ M y) : Gv lo w' s D := by
  refine ⟨⟨?_, h.src.2⟩, h.lt⟩
  by_cases hD : D = []
  · subst hD
    exact ⟨h.src.1.1, h.src.1.2, fun j x hx => by simp at hx⟩
  · exact h.src.1.kept hk fun ad had _ => hM _ (h.lt hD ad had)
theorem Gv.same {lo : Nat} {w w' : World} {s : Value} {D : List Int} (h : Gv lo w s D) (hk : Same w w') : Gv lo w' s D := h.kept hk fun _ _ h => h
structure AvAt (lo : Nat) (w : World) (v : Av) (a : Ac) : Prop where
  wh : v.wh = a.wh
  bl : v.bl = a.bl
  pg : v.pg = a.pg
  d : Gv lo w v.sd a.D
  s : Gv lo w v.ss a.Sp
theorem AvAt.kept {lo : Nat} {w w' : World} {v : Av} {a : Ac} {M : Nat → Prop} (h : AvAt lo w v a) (hs : Kept M w w') (hM : ∀ y, y < lo → ¬ M y) : AvAt lo w' v a := ⟨h.wh, h.bl, h.pg, h.d.kept hs hM, h.s.kept hs hM⟩
theorem AvAt.same {lo : Nat} {w w' : World} {v : Av} {a : Ac} (h : AvAt lo w v a) (hs : Same w w') : AvAt lo w' v a := h.kept hs fun _ _ h => h
structure AvsAt (lo : Nat) (w : World) (L : List Av) (A : List Ac) : Prop where
  len : L.length = A.length
  at_ : ∀ (i : Nat) v a, L[i]? = some v → A[i]? = some a → AvAt lo w v a
theorem AvsAt.kept {lo : Nat} {w w' : World} {L : List Av} {A : List Ac} {M : Nat → Prop} (h : AvsAt lo w L A) (hs : Kept M w w') (hM : ∀ y, y < lo → ¬ M y) : AvsAt lo w' L A := ⟨h.len, fun i v a h1 h2 => (h.at_ i v a h1 h2).kept hs hM⟩
theorem AvsAt.same {lo : Nat} {w w' : World} {L : List Av} {A : List Ac} (h : AvsAt lo w L A) (hs : Same w w') : AvsAt lo w' L A := h.kept hs fun _ _ h => h
def okA (a : Ac) : Bool := decide (a.D.length ≤ 100) && decide (a.Sp.length ≤ 100)
def fewB (A : List Ac) (m : Int) : Bool := decide ((A.length : Int) ≤ m) && A.all okA
theorem c9 (s : Value) (L : List Av) (A : List Ac) (m : Int) (w : World) (hs : Arr avE w s L) {lo : Nat} (hA : AvsAt lo w L A) (hl : A.length < 9223372036854775808) : Gives Try.prog 9 [s, .int .i64 m] w (.bool (fewB A m)) := by
  obtain ⟨a, c, rfl⟩ := hs.slice
  have hle := hA.len
  refine gives mix t9 rfl rfl (ε := [.slice a L.length c, .int .i64 m]) ⟨⟨_, _, _, rfl⟩, ⟨_, rfl⟩, trivial⟩ (den_splitLt (fun h1 => ?_) (fun h1 => ?_))
  · have h1' : m < (L.length : Int) := h1
    have e : fewB A m = false := by simp [fewB]; omega
    rw [e]
    exact den_leaf rfl
  have h1' : (L.length : Int) ≤ m := h1
  refine den_for L.length (fun j w' => ∀ (i : Nat) x, i < j → A[i]? = some x → okA x = true) ⟨rfl, fun w _ i y hi => by omega⟩ ?_
  intro j w1 hj hI hk hfa
  refine den_norm (by simp only [List.cons_append, List.nil_append]; rfl) (den_splitLt (fun hlt => ?_) (fun hge => ?_))
  · have hlt' : j < L.length := by simpa [IE.den, nth, vint, vlen] using hlt
    obtain ⟨v, hv⟩ : ∃ v, L[j]? = some v := ⟨_, List.getElem?_eq_getElem hlt'⟩
    obtain ⟨x, hx⟩ : ∃ x, A[j]? = some x := ⟨_, List.getElem?_eq_getElem (by omega)⟩
    have ha := hA.at_ j v x hv hx
    obtain ⟨da, dc, ed⟩ := ha.d.src.1.slice
    obtain ⟨sa, sc, es⟩ := ha.s.src.1.slice
    have bad : okA x = false → fewB A m = false := fun h => by
      have : A.all okA = false := List.all_eq_false.2 ⟨x, List.mem_of_getElem? hx, by simp [h]⟩
      simp [fewB, this]
    refine den_idx2 (E := avE) (L := L) v j [.slice da x.D.length dc] (hs.same hk) rfl (by decide) rfl hv ⟨⟨_, _, _, rfl⟩, trivial⟩ (cellk _ 3 _ (by simp only [avE, Av.cells, ed]; rfl)) (fun w2 h2 => (hs.same hk).same (shown_same h2)) (fun ad had hin => by simp [BlkIn, nth, blkOf, vaddr] at hin) (fun w2 h2 => den_norm (by simp only [List.cons_append, List.nil_append]; rfl) (den_splitLt (fun h3 => ?_) (fun h3 => ?_)))
    · have h3' : (100 : Int) < (x.D.length : Int) := h3
      rw [bad (by simp [okA]; omega)]
      exact den_leaf_ne (by decide) (den_leaf rfl)
    have h3' : (x.D.length : Int) ≤ 100 := h3
    refine den_ob (by simp [BE.den, IE.den, nth, vint]) (den_ob (by simp [BE.den, IE.den, nth, vint, vlen]; omega) ?_)
    refine den_ldi (E := avE) (L := L) v j [.slice sa x.Sp.length sc] rfl (by decide) rfl hv ⟨⟨_, _, _, rfl⟩, trivial⟩ (cellk _ 4 _ (by simp only [avE, Av.cells, es]; rfl)) (fun w3 h4 => ((hs.same hk).same (shown_same h2)).same (shown_same h4)) (fun ad had hin => by simp [BlkIn, nth, blkOf, vaddr] at hin) (fun w3 h4 => den_norm (by simp only [List.cons_append, List.nil_append]; rfl) (den_splitLt (fun h5 => ?_) (fun h5 => ?_)))
    · have h5' : (100 : Int) < (x.Sp.length : Int) := h5
      rw [bad (by simp [okA]; omega)]
      exact den_leaf_ne (by decide) (den_leaf rfl)
    have h5' : (x.Sp.length : Int) ≤ 100 := h5
    refine den_ob64 (by simp only [IE.den, nth, vint]; omega) (den_next rfl hlt' fun w5 _ i y hi hy => ?_)
    by_cases hij : i = j
    · subst hij
      rw [hx] at hy
      cases hy
      simp [okA]
      omega
    · exact hI i y (by omega) hy
  · have hge' : L.length ≤ j := by simpa [IE.den, nth, vint, vlen] using hge
    have e : fewB A m = true := by
      have : A.all okA = true := List.all_eq_true.2 fun x hx => by
        obtain ⟨i, hi⟩ := List.getElem?_of_mem hx
        have := (List.getElem?_eq_some_iff.1 hi).1
        exact hI i x (by omega) hi
      simp [fewB, this]
      omega
    rw [e]
    exact den_leaf_ne (by decide) (den_leaf rfl)
theorem c4 (v : Av) (a : Ac) (zero : Bool) (w : World) {lo : Nat} (hv : AvAt lo w v a) : Gives Try.prog 4 [.agg v.cells.toArray, .bool zero] w (.bool true) := by
  obtain ⟨da, dc, ed⟩ := hv.d.src.1.slice
  obtain ⟨sa, sc, es⟩ := hv.s.src.1.slice
  refine Runs.gives ?_
  have hh := runs mix t4 rfl rfl (ε := [.int .i64 v.wh, .int .i64 v.bl, .int .i64 v.pg, .slice da a.D.length dc, .slice sa a.Sp.length sc, .bool zero]) (heap := []) (w := w) (M := fun _ => False) (R := fun v _ => v = .bool true) ⟨⟨_, rfl⟩, ⟨_, rfl⟩, ⟨_, rfl⟩, ⟨_, _, _, rfl⟩, ⟨_, _, _, rfl⟩, ⟨_, rfl⟩, trivial⟩ trivial (by simp [keys]) (by simp [keys]) (by simp [keys]) ?_
  · have : [Value.agg v.cells.toArray, .bool zero] = [.agg #[.int .i64 v.wh, .int .i64 v.bl, .int .i64 v.pg, .slice da a.D.length dc, .slice sa a.Sp.length sc], .bool zero] := by simp [Av.cells, ed, es]
    rw [this]
    exact hh
  refine den_blk fun b6 k6 _ _ => den_norm (by simp only [List.cons_append, List.nil_append]; rfl) (den_blk fun b7 k7 _ _ => den_norm (by simp only [List.cons_append, List.nil_append]; rfl) (den_blk fun b8 k8 _ _ => den_norm (by simp only [List.cons_append, List.nil_append]; rfl) ?_))
  refine den_call_bool (b := fewB [a] 1) (fun w1 h1 => ?_) rfl (fun w1 w2 h1 h2 => den_norm (by simp only [List.cons_append, List.nil_append]; rfl) (den_splitNot (fun hf => ?_) (fun hf => ?_)))
  · have hb : HasBlk w1 (pt b8) [.int .i64 v.wh, .int .i64 v.bl, .int .i64 v.pg, .slice da a.D.length dc, .slice sa a.Sp.length sc] := h1.facts.1
    have hA := lit_arr (E := avE) (L := [v]) (n := 1) rfl (by simpa [avE, Av.cells, ed, es] using hb)
    have key : ∀ l, l = [slc0 b8 1 1, .int .i64 1] → Gives Try.prog 9 l w1 (.bool (fewB [a] 1)) := fun l e => by
      rw [e]
      refine c9 _ [v] [a] 1 w1 hA (lo := lo) ⟨rfl, fun i x y hx hy => ?_⟩ (by simp)
      cases i with
      | zero => cases hx; cases hy; exact hv.same h1.base
      | succ i => simp at hx
    exact key _ (by simp [SV.den, denL, IE.den, BE.den, nth, vint, vbool, vaddr, addO, addr_add])
  · exact den_call_bool (b := true) (fun wa _ => c11 wa) rfl (fun _ _ _ _ => den_norm (by simp only [List.cons_append, List.nil_append]; rfl) (den_leafMA _ rfl fun _ _ _ _ => rfl))
  refine den_split (fun hz => ?_) (fun hz => ?_)
  · refine den_blk fun b10 k10 _ _ => den_norm (by simp only [List.cons_append, List.nil_append]; rfl) ?_
    refine den_call [nilS, nilS, .int .i64 1] ⟨⟨_, _, _, rfl⟩, ⟨_, _, _, rfl⟩, ⟨_, rfl⟩, trivial⟩ rfl (fun wa ha => n13 (.inr ⟨b10, rfl, ha.facts.1⟩) v.bl v.pg) (fun w3 w4 h3 h34 => den_norm (by simp only [List.cons_append, List.nil_append]; rfl) ?_)
    refine den_callR (fun w5 l w6 => ∃ v, l = [v] ∧ SeqAt Try.prog w5.heap.size w6.heap.size w6 v (ysW [])) (fun wx ha => ?_) ?_
    · refine (n17 (v := pt b10) (.inr ⟨b10, rfl, ha.facts.1⟩)).mono fun v w' hs => ⟨[v], ?_, ?_, v, rfl, hs⟩
      · obtain ⟨g, caps, Ft, rfl, _⟩ := hs.ex
        exact ⟨rfl, trivial⟩
      · rfl
    rintro wn l wo hn _ ⟨fv, rfl, hsq⟩ hno
    have hfn : vnil fv = false := by
      obtain ⟨g, caps, Ft, rfl, _⟩ := hsq.ex
      rfl
    have l10 : b10 < wn.heap.size := hn.lt (i := 10) (by simp [keys]) rfl
    have l8 : b8 < wn.heap.size := hn.lt (i := 8) (by simp [keys]) rfl
    have l7 : b7 < wn.heap.size := hn.lt (i := 7) (by simp [keys]) rfl
    have l6 : b6 < wn.heap.size := hn.lt (i := 6) (by simp [keys]) rfl
    refine den_norm (by simp only [List.cons_append, List.nil_append]; rfl) (den_split_false (by simp [BE.den, nth, hfn]) ?_)
    refine den_range [] (fun _ l _ => l = []) wn.heap.size wo.heap.size ?_ ?_ ?_ ?_ ?_ ?_
    · intro x hx
      simp at hx
    · intro y hy
      simp [BlkIn, nth, blkOf, vaddr] at hy
      omega
    · intro wx hx
      exact hsq.kept (M := fun _ => False) (shown_same hx) fun _ _ _ _ h => h
    · intro wx hx
      rfl
    · intro wx Ft hx k y hy
      simp at hy
    rintro wx hx l hl wy wz rfl hq hk2 hfa2
    refine den_norm (by simp only [List.cons_append, List.nil_append]; rfl) (den_start1 fun ws1 hs1 => ?_)
    refine den_call_int (x := 1) (fun wa ha => c18 1 wa) rfl (fun _ _ _ _ => den_norm (by simp only [List.cons_append, List.nil_append]; rfl) ?_)
    refine den_split_true rfl ?_
    refine den_ob64 ⟨by simp [IE.den, nth, vlen], by simp [IE.den, nth, vlen]⟩ ?_
    refine den_split_true rfl ?_
    refine den_call_int (x := 1) (fun wa ha => n19 (v := pt b10) (.inr ⟨b10, rfl, ha.facts.1⟩) v.bl v.pg _ _ ⟨_, _, _, rfl⟩ ⟨_, _, _, rfl⟩) rfl (fun _ _ _ _ => den_norm (by simp only [List.cons_append, List.nil_append]; rfl) ?_)
    refine den_call_int (x := 1) (fun wa ha => c18 1 wa) rfl (fun _ _ _ _ => den_norm (by simp only [List.cons_append, List.nil_append]; rfl) ?_)
    refine den_split_true rfl ?_
    refine den_call_int (x := 1) (fun wa ha => n20 (v := pt b10) (.inr ⟨b10, rfl, ha.facts.1⟩) v.bl) rfl (fun _ _ _ _ => den_norm (by simp only [List.cons_append, List.nil_append]; rfl) ?_)
    refine den_call_int (x := 1) (fun wa ha => c18 1 wa) rfl (fun _ _ _ _ => den_norm (by simp only [List.cons_append, List.nil_append]; rfl) ?_)
    refine den_split_true rfl ?_
    refine den_call_int (x := 1) (fun wa ha => n21 (v := pt b10) (.inr ⟨b10, rfl, ha.facts.1⟩) v.bl v.pg) rfl (fun _ _ _ _ => den_norm (by simp only [List.cons_append, List.nil_append]; rfl) ?_)
    refine den_call_int (x := 1) (fun wa ha => c18 1 wa) rfl (fun _ _ _ _ => den_norm (by simp only [List.cons_append, List.nil_append]; rfl) ?_)
    refine den_split_true rfl ?_
    refine den_call_int (x := 1) (fun wa ha => n22 (v := pt b10) (.inr ⟨b10, rfl, ha.facts.1⟩)) rfl (fun _ _ _ _ => den_norm (by simp only [List.cons_append, List.nil_append]; rfl) ?_)
    refine den_call_int (x := 1) (fun wa ha => c18 1 wa) rfl (fun _ _ _ _ => den_norm (by simp only [List.cons_append, List.nil_append]; rfl) ?_)
    refine den_split_true rfl ?_
    refine den_call_bool (b := false) (fun wa ha => n23 (v := pt b10) (.inr ⟨b10, rfl, ha.facts.1⟩)) rfl (fun _ _ _ _ => den_norm (by simp only [List.cons_append, List.nil_append]; rfl) ?_)
    refine den_split_true rfl ?_
    refine den_call [.int .i64 0, .int .i64 0, .int .i64 0, .int .i64 0] ⟨⟨_, rfl⟩, ⟨_, rfl⟩, ⟨_, rfl⟩, ⟨_, rfl⟩, trivial⟩ rfl (fun wa ha => n24 (v := pt b10) (.inr ⟨b10, rfl, ha.facts.1⟩)) (fun _ _ _ _ => den_norm (by simp only [List.cons_append, List.nil_append]; rfl) ?_)
    refine den_pur [.bool true] ⟨⟨_, rfl⟩, trivial⟩ (fun ρ hρ w' _ => ?_) (den_norm (by simp only [List.cons_append, List.nil_append]; rfl) ?_)
    · have e1 := hρ _ (List.mem_cons_self ..)
      have e2 := hρ _ (List.mem_cons_of_mem _ (List.mem_cons_self ..))
      obtain ⟨k1, k2⟩ := flatG ⟨0, 0, 0, 0⟩ ⟨0, 0, 0, 0⟩
      have := run_eqlFlat un23 sh23 gu23 _ _ k1 ρ _ _ 23 4 e1 e2 w'
      rw [k2, eqG_refl] at this
      exact this
    refine den_split_true rfl ?_
    refine den_call_int (x := 0) (fun wa ha => n25 (v := pt b10) (.inr ⟨b10, rfl, ha.facts.1⟩)) rfl (fun _ _ _ _ => den_norm (by simp only [List.cons_append, List.nil_append]; rfl) ?_)
    refine den_call_int (x := 0) (fun wa ha => n26 (v := pt b10) (.inr ⟨b10, rfl, ha.facts.1⟩) v.bl) rfl (fun _ _ _ _ => den_norm (by simp only [List.cons_append, List.nil_append]; rfl) ?_)
    refine den_ob64 ⟨by simp [IE.den, nth, vint], by simp [IE.den, nth, vint]⟩ ?_
    refine den_call_int (x := 0) (fun wa ha => n27 (v := pt b10) (.inr ⟨b10, rfl, ha.facts.1⟩) v.bl) rfl (fun _ _ _ _ => den_norm (by simp only [List.cons_append, List.nil_append]; rfl) ?_)
    refine den_ob64 ⟨by simp [IE.den, nth, vint], by simp [IE.den, nth, vint]⟩ ?_
    refine den_split_true rfl ?_
    refine den_call_int (x := 0) (fun wa ha => n28 (v := pt b10) (.inr ⟨b10, rfl, ha.facts.1⟩) v.bl v.pg) rfl (fun _ _ _ _ => den_norm (by simp only [List.cons_append, List.nil_append]; rfl) ?_)
    refine den_split_true rfl ?_
    refine den_call [.pointer none] ⟨⟨_, rfl⟩, trivial⟩ rfl (fun wa ha => n14 (v := pt b10) (.inr ⟨b10, rfl, ha.facts.1⟩)) (fun _ _ _ _ => den_norm (by simp only [List.cons_append, List.nil_append]; rfl) ?_)
    refine den_split_true rfl ?_
    exact den_call_bool (b := true) (fun wa _ => c11 wa) rfl (fun _ _ _ _ => den_norm (by simp only [List.cons_append, List.nil_append]; rfl) (den_leafMA _ rfl fun _ _ _ _ => rfl))
  · skip
    refine den_call [nilS, nilS, .int .i64 1] ⟨⟨_, _, _, rfl⟩, ⟨_, _, _, rfl⟩, ⟨_, rfl⟩, trivial⟩ rfl (fun wa ha => n13 (.inl rfl) v.bl v.pg) (fun w3 w4 h3 h34 => den_norm (by simp only [List.cons_append, List.nil_append]; rfl) ?_)
    refine den_callR (fun w5 l w6 => ∃ v, l = [v] ∧ SeqAt Try.prog w5.heap.size w6.heap.size w6 v (ysW [])) (fun wx ha => ?_) ?_
    · refine (n17 (v := .pointer none) (.inl rfl)).mono fun v w' hs => ⟨[v], ?_, ?_, v, rfl, hs⟩
      · obtain ⟨g, caps, Ft, rfl, _⟩ := hs.ex
        exact ⟨rfl, trivial⟩
      · rfl
    rintro wn l wo hn _ ⟨fv, rfl, hsq⟩ hno
    have hfn : vnil fv = false := by
      obtain ⟨g, caps, Ft, rfl, _⟩ := hsq.ex
      rfl
    have l8 : b8 < wn.heap.size := hn.lt (i := 8) (by simp [keys]) rfl
    have l7 : b7 < wn.heap.size := hn.lt (i := 7) (by simp [keys]) rfl
    have l6 : b6 < wn.heap.size := hn.lt (i := 6) (by simp [keys]) rfl
    refine den_norm (by simp only [List.cons_append, List.nil_append]; rfl) (den_split_false (by simp [BE.den, nth, hfn]) ?_)
    refine den_range [] (fun _ l _ => l = []) wn.heap.size wo.heap.size ?_ ?_ ?_ ?_ ?_ ?_
    · intro x hx
      simp at hx
    · intro y hy
      simp [BlkIn, nth, blkOf, vaddr] at hy
      omega
    · intro wx hx
      exact hsq.kept (M := fun _ => False) (shown_same hx) fun _ _ _ _ h => h
    · intro wx hx
      rfl
    · intro wx Ft hx k y hy
      simp at hy
    rintro wx hx l hl wy wz rfl hq hk2 hfa2
    refine den_norm (by simp only [List.cons_append, List.nil_append]; rfl) (den_start1 fun ws1 hs1 => ?_)
    refine den_call_int (x := 1) (fun wa ha => c18 1 wa) rfl (fun _ _ _ _ => den_norm (by simp only [List.cons_append, List.nil_append]; rfl) ?_)
    refine den_split_true rfl ?_
    refine den_ob64 ⟨by simp [IE.den, nth, vlen], by simp [IE.den, nth, vlen]⟩ ?_
    refine den_split_true rfl ?_
    refine den_call_int (x := 1) (fun wa ha => n19 (v := .pointer none) (.inl rfl) v.bl v.pg _ _ ⟨_, _, _, rfl⟩ ⟨_, _, _, rfl⟩) rfl (fun _ _ _ _ => den_norm (by simp only [List.cons_append, List.nil_append]; rfl) ?_)
    refine den_call_int (x := 1) (fun wa ha => c18 1 wa) rfl (fun _ _ _ _ => den_norm (by simp only [List.cons_append, List.nil_append]; rfl) ?_)
    refine den_split_true rfl ?_
    refine den_call_int (x := 1) (fun wa ha => n20 (v := .pointer none) (.inl rfl) v.bl) rfl (fun _ _ _ _ => den_norm (by simp only [List.cons_append, List.nil_append]; rfl) ?_)
    refine den_call_int (x := 1) (fun wa ha => c18 1 wa) rfl (fun _ _ _ _ => den_norm (by simp only [List.cons_append, List.nil_append]; rfl) ?_)
    refine den_split_true rfl ?_
    refine den_call_int (x := 1) (fun wa ha => n21 (v := .pointer none) (.inl rfl) v.bl v.pg) rfl (fun _ _ _ _ => den_norm (by simp only [List.cons_append, List.nil_append]; rfl) ?_)
    refine den_call_int (x := 1) (fun wa ha => c18 1 wa) rfl (fun _ _ _ _ => den_norm (by simp only [List.cons_append, List.nil_append]; rfl) ?_)
    refine den_split_true rfl ?_
    refine den_call_int (x := 1) (fun wa ha => n22 (v := .pointer none) (.inl rfl)) rfl (fun _ _ _ _ => den_norm (by simp only [List.cons_append, List.nil_append]; rfl) ?_)
    refine den_call_int (x := 1) (fun wa ha => c18 1 wa) rfl (fun _ _ _ _ => den_norm (by simp only [List.cons_append, List.nil_append]; rfl) ?_)
    refine den_split_true rfl ?_
    refine den_call_bool (b := false) (fun wa ha => n23 (v := .pointer none) (.inl rfl)) rfl (fun _ _ _ _ => den_norm (by simp only [List.cons_append, List.nil_append]; rfl) ?_)
    refine den_split_true rfl ?_
    refine den_call [.int .i64 0, .int .i64 0, .int .i64 0, .int .i64 0] ⟨⟨_, rfl⟩, ⟨_, rfl⟩, ⟨_, rfl⟩, ⟨_, rfl⟩, trivial⟩ rfl (fun wa ha => n24 (v := .pointer none) (.inl rfl)) (fun _ _ _ _ => den_norm (by simp only [List.cons_append, List.nil_append]; rfl) ?_)
    refine den_pur [.bool true] ⟨⟨_, rfl⟩, trivial⟩ (fun ρ hρ w' _ => ?_) (den_norm (by simp only [List.cons_append, List.nil_append]; rfl) ?_)
    · have e1 := hρ _ (List.mem_cons_self ..)
      have e2 := hρ _ (List.mem_cons_of_mem _ (List.mem_cons_self ..))
      obtain ⟨k1, k2⟩ := flatG ⟨0, 0, 0, 0⟩ ⟨0, 0, 0, 0⟩
      have := run_eqlFlat un23 sh23 gu23 _ _ k1 ρ _ _ 23 4 e1 e2 w'
      rw [k2, eqG_refl] at this
      exact this
    refine den_split_true rfl ?_
    refine den_call_int (x := 0) (fun wa ha => n25 (v := .pointer none) (.inl rfl)) rfl (fun _ _ _ _ => den_norm (by simp only [List.cons_append, List.nil_append]; rfl) ?_)
    refine den_call_int (x := 0) (fun wa ha => n26 (v := .pointer none) (.inl rfl) v.bl) rfl (fun _ _ _ _ => den_norm (by simp only [List.cons_append, List.nil_append]; rfl) ?_)
    refine den_ob64 ⟨by simp [IE.den, nth, vint], by simp [IE.den, nth, vint]⟩ ?_
    refine den_call_int (x := 0) (fun wa ha => n27 (v := .pointer none) (.inl rfl) v.bl) rfl (fun _ _ _ _ => den_norm (by simp only [List.cons_append, List.nil_append]; rfl) ?_)
    refine den_ob64 ⟨by simp [IE.den, nth, vint], by simp [IE.den, nth, vint]⟩ ?_
    refine den_split_true rfl ?_
    refine den_call_int (x := 0) (fun wa ha => n28 (v := .pointer none) (.inl rfl) v.bl v.pg) rfl (fun _ _ _ _ => den_norm (by simp only [List.cons_append, List.nil_append]; rfl) ?_)
    refine den_split_true rfl ?_
    refine den_call [.pointer none] ⟨⟨_, rfl⟩, trivial⟩ rfl (fun wa ha => n14 (v := .pointer none) (.inl rfl)) (fun _ _ _ _ => den_norm (by simp only [List.cons_append, List.nil_append]; rfl) ?_)
    refine den_split_true rfl ?_
    exact den_call_bool (b := true) (fun wa _ => c11 wa) rfl (fun _ _ _ _ => den_norm (by simp only [List.cons_append, List.nil_append]; rfl) (den_leafMA _ rfl fun _ _ _ _ => rfl))
end Go.Proofs.Ytppbapnibpeolaa
