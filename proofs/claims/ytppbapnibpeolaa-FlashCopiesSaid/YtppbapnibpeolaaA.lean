/- A flash device as a value and in memory. No conditions beyond those that each theorem names. -/
import Derived.Test.YtppbapnibpeolaaT
set_option maxRecDepth 100000
set_option maxHeartbeats 2000000
set_option linter.unusedVariables false
set_option linter.unusedSimpArgs false
namespace Go.Proofs.Ytppbapnibpeolaa
open Go.Sx Go.RowKit

theorem mix : Try.prog.follows .mixedOrders = true := by kernel_rfl
abbrev pt (b : Nat) : Value := .pointer (some ⟨b, 0, none⟩)
theorem cell0 (l : List Value) (v : Value) (h : l[0]? = some v) : ∀ (i : Nat) (u : Value), [v][i]? = some u → l[0 + i]? = some u := fun i u hu => by cases i with | zero => cases hu; exact h | succ i => simp at hu
theorem cellk (l : List Value) (k : Nat) (v : Value) (h : l[k]? = some v) : ∀ (i : Nat) (u : Value), [v][i]? = some u → l[k + i]? = some u := fun i u hu => by cases i with | zero => cases hu; exact h | succ i => simp at hu

/-! maps from integers to true -/
def MapB (w : World) (b : Nat) (F : Int → Bool) : Prop :=
  ∃ es clock, w.heap[b]? = some (.map es clock) ∧ MapKept.Stamped es clock ∧ (∀ x ∈ es.toList, ∃ k, x.key = .int .i64 k ∧ x.val = .bool true ∧ F k = true) ∧ (∀ k, F k = true → ∃ x ∈ es.toList, x.key = .int .i64 k)
section
variable {w w' : World} {b : Nat} {f : Int → Bool}
theorem MapB.lt (h : MapB w b f) : b < w.heap.size := by
  obtain ⟨es, clock, hh, _⟩ := h
  exact (Array.getElem?_eq_some_iff.1 hh).1
theorem MapB.kept {M : Nat → Prop} (h : MapB w b f) (hk : Kept M w w') (hM : ¬ M b) : MapB w' b f := by
  have hlt := h.lt
  obtain ⟨es, clock, hh, rest⟩ := h
  exact ⟨es, clock, (hk.block b hlt hM).trans hh, rest⟩
theorem MapB.same (h : MapB w b f) (hk : Same w w') : MapB w' b f := h.kept hk fun h => h
variable {P : Program} {t kt et : TypeId}
theorem run_lookupB (ht : P.underlying t = some (.map kt et)) (hk : P.underlying kt = some (.int .i64)) (hz : ∀ w, (zeroValue et).run P w = .ok (.bool false) w) (h : MapB w b f) (k : Int) :
    (Instr.lookup t (.map (some b)) (.int .i64 k) false).run P w = .ok (.bool (f k)) w := by
  obtain ⟨es, clock, hh, hs, h1, h2⟩ := h
  have hks : ∀ x ∈ es.toList, MapKept.IsKey (.int .i64) x.key := fun x hx => by
    obtain ⟨k, e, _⟩ := h1 x hx
    rw [e]
    rfl
  have hkk : MapKept.IsKey (.int .i64) (.int .i64 k) := rfl
  rcases MapKept.findNow_spec hkk es.toList 0 hks with ⟨e1, e2⟩ | ⟨j, e, e1, e2, e3⟩
  · have hn : f k = false := by
      cases hf : f k with
      | false => rfl
      | true =>
        obtain ⟨x, hx, e⟩ := h2 k hf
        exact absurd e (e2 x hx)
    simp [Instr.lookup, run_underlying ht, MapKept.run_getObj_map hh, MapKept.run_checkKey hk hkk, MapKept.run_findKey hk e1, hz, Result.andThen, hn]
  · obtain ⟨k', a1, a2, a3⟩ := h1 e (List.mem_of_getElem? e2)
    rw [a1] at e3
    cases e3
    simp [Instr.lookup, run_underlying ht, MapKept.run_getObj_map hh, MapKept.run_checkKey hk hkk, MapKept.run_findKey hk e1, Result.andThen, a2, a3]
theorem run_updateB (ht : P.underlying t = some (.map kt et)) (hk : P.underlying kt = some (.int .i64)) (h : MapB w b f) (k : Int) :
    ∃ w', (Instr.mapUpdate t (.map (some b)) (.int .i64 k) (.bool true)).run P w = .ok () w' ∧ MapB w' b (fun j => decide (j = k) || f j) ∧ Kept (fun x => x = b) w w' := by
  obtain ⟨es, clock, hh, hs, h1, h2⟩ := h
  have hks : ∀ x ∈ es.toList, MapKept.IsKey (.int .i64) x.key := fun x hx => by
    obtain ⟨k, e, _⟩ := h1 x hx
    rw [e]
    rfl
  have hkk : MapKept.IsKey (.int .i64) (.int .i64 k) := rfl
  have kept : ∀ o : Obj, Kept (fun x => x = b) w { w with heap := w.heap.setIfInBounds b o } := fun o => ⟨rfl, rfl, rfl, by simp, fun r hr hne => (MapKept.heap_set hh).2 r hne⟩
  rcases MapKept.findNow_spec hkk es.toList 0 hks with ⟨e1, e2⟩ | ⟨j, e, e1, e2, e3⟩
  · refine ⟨_, by simp [Instr.mapUpdate, run_underlying ht, MapKept.run_getObj_map hh, MapKept.run_checkKey hk hkk, MapKept.run_findKey hk e1, MapKept.run_setObj_map _ hh, Result.andThen]; rfl, ⟨_, _, (MapKept.heap_set hh).1, MapKept.stamped_push hs e2, ?_, ?_⟩, kept _⟩
    · intro x hx
      simp only [Array.toList_push, List.mem_append, List.mem_singleton] at hx
      rcases hx with hx | rfl
      · obtain ⟨k', a1, a2, a3⟩ := h1 x hx
        exact ⟨k', a1, a2, by simp [a3]⟩
      · exact ⟨k, rfl, rfl, by simp⟩
    · intro k' hf
      by_cases e : k' = k
      · subst e
        exact ⟨{ key := .int .i64 k', val := .bool true, born := clock }, by simp, rfl⟩
      · obtain ⟨x, hx, e⟩ := h2 k' (by simpa [e] using hf)
        exact ⟨x, by simp [hx], e⟩
  · have hj : es[j]? = some e := by simpa using e2
    have hkey : ∀ e', es[j]? = some e' → ({ e' with key := .int .i64 k, val := .bool true } : MapEntry).key = e'.key := fun e' he' => by rw [hj] at he'; cases he'; exact e3.symm
    refine ⟨{ w with heap := w.heap.setIfInBounds b (.map (es.modify j fun e => { e with key := .int .i64 k, val := .bool true }) clock) }, by simp [Instr.mapUpdate, run_underlying ht, MapKept.run_getObj_map hh, MapKept.run_checkKey hk hkk, MapKept.run_findKey hk e1, hj, e3, MapKept.run_keyThatStays hkk, MapKept.run_setObj_map _ hh, Result.andThen], ⟨_, _, (MapKept.heap_set hh).1, MapKept.stamped_modify hs j (fun e => { e with key := .int .i64 k, val := .bool true }) (fun _ _ => rfl) (fun e' _ he' => hkey e' he'), ?_, ?_⟩, kept _⟩
    · intro x hx
      obtain ⟨i, hi⟩ := List.getElem?_of_mem hx
      rw [Array.getElem?_toList, Array.getElem?_modify] at hi
      by_cases hij : j = i
      · subst hij
        rw [if_pos rfl, hj] at hi
        cases hi
        exact ⟨k, rfl, rfl, by simp⟩
      · rw [if_neg hij] at hi
        have hx' : x ∈ es.toList := List.mem_of_getElem? (by rw [Array.getElem?_toList]; exact hi)
        obtain ⟨k', a1, a2, a3⟩ := h1 x hx'
        exact ⟨k', a1, a2, by simp [a3]⟩
    · intro k' hf
      have old : ∀ x ∈ es.toList, x.key = .int .i64 k' → ∃ x ∈ (es.modify j fun e => { e with key := .int .i64 k, val := .bool true }).toList, x.key = .int .i64 k' := fun x hx e => by
        have : .int .i64 k' ∈ es.toList.map (·.key) := List.mem_map.2 ⟨x, hx, e⟩
        rw [← MapKept.modify_keys j (fun e => { e with key := .int .i64 k, val := .bool true }) hkey] at this
        obtain ⟨y, hy, e⟩ := List.mem_map.1 this
        exact ⟨y, hy, e⟩
      by_cases ee : k' = k
      · subst ee
        exact old e (List.mem_of_getElem? e2) e3
      · obtain ⟨x, hx, ee⟩ := h2 k' (by simpa [ee] using hf)
        exact old x hx ee
theorem mapB_new (o : World) : MapB (o.alloc (.map #[] 0)) o.heap.size (fun _ => false) :=
  ⟨#[], 0, (MapKept.heap_alloc o _).1, MapKept.stamped_empty 0, by simp, fun k h => by cases h⟩
end
section
variable {G : Ctx} {Λ : Nat → List Value → World → Prop} {ε : List Value} {wx ws : World} {X : Nat → Prop} {k k' : VC}
theorem den_lookupB {t kt et type : TypeId} {x ix : Operand} {sx : SV} {e : IE} {j : Nat} {drawn : Bool} {tt t' un : List Nat} {fs : Facts} (b : Nat) (f : Int → Bool)
    (ht : G.P.underlying t = some (.map kt et)) (hk0 : G.P.underlying kt = some (.int .i64)) (hz : ∀ w, (zeroValue et).run G.P w = .ok (.bool false) w) (hx : sx.den ε = .map (some b))
    (hm : ∀ w, Shown G ε tt fs wx w → MapB w b f) (hj : ∀ v, nth (ε ++ [.bool v]) j = .bool v)
    (hk : ∀ w w', Shown G ε tt fs wx w → Same w w' → k.den G Λ (ε ++ [.bool (f (e.den ε))]) w' (if drawn then ws else w') (if drawn then X else BlkIn ε t')) :
    (VC.gen (.lookup t x ix false) type [(x, sx), (ix, .int .i64 e)] [Base.bool] (.bool (.var j)) [] drawn tt t' un fs k).den G Λ ε wx ws X := by
  refine den_gen (fun w l w' => l = [.bool (f (e.den ε))]) ?_ ?_
  · intro w hw ρ hρ
    have h1 : ρ x = .map (some b) := by have := hρ (x, sx.den ε) (by simp); rw [this, hx]
    have h2 : ρ ix = .int .i64 (e.den ε) := by have := hρ (ix, .int .i64 (e.den ε)) (by simp [SV.den]); rw [this]
    have hr := run_lookupB ht hk0 hz (hm w hw) (e.den ε)
    refine .inl ⟨.bool (f (e.den ε)), w, .inl ?_, ⟨[.bool (f (e.den ε))], ⟨⟨_, rfl⟩, trivial⟩, ?_, rfl⟩, Kept.refl _ _⟩
    · simp [execOp, bare, h1, h2, hr]
    · simp only [SV.den, denL, IE.den, BE.den, hj, vint, vbool]
  · rintro w l w' hw hl rfl hs
    exact hk w w' hw hs
theorem den_updateB {t kt et type : TypeId} {x ix vx : Operand} {sx : SV} {e1 : IE} {drawn : Bool} {tt t' un : List Nat} {fs : Facts} {op : Op} (hop : op = .mapUpdate t x ix vx) (b : Nat) (f : Int → Bool)
    (ht : G.P.underlying t = some (.map kt et)) (hk0 : G.P.underlying kt = some (.int .i64)) (hx : sx.den ε = .map (some b))
    (hm : ∀ w, Shown G ε tt fs wx w → MapB w b f) (hF : ∀ w, Shown G ε tt fs wx w → FpOk G drawn X ε un w b)
    (hk : ∀ w w', Shown G ε tt fs wx w → MapB w' b (fun j => decide (j = e1.den ε) || f j) → Kept (fun x => x = b) w w' → k.den G Λ ε w' (if drawn then ws else w') (if drawn then X else BlkIn ε t')) :
    (VC.gen op type [(x, sx), (ix, .int .i64 e1), (vx, .bool (.lit true))] [] undefS [] drawn tt t' un fs k).den G Λ ε wx ws X := by
  refine den_genF (fun z => z = b) (fun w l w' => l = [] ∧ MapB w' b (fun j => decide (j = e1.den ε) || f j)) (fun w hw z hz _ => by subst hz; exact hF w hw) ?_ ?_
  · intro w hw ρ hρ
    have h1 : ρ x = .map (some b) := by have := hρ (x, sx.den ε) (by simp); rw [this, hx]
    have h2 : ρ ix = .int .i64 (e1.den ε) := by have := hρ (ix, .int .i64 (e1.den ε)) (by simp [SV.den]); rw [this]
    have h3 : ρ vx = .bool true := by have := hρ (vx, .bool true) (by simp [SV.den, BE.den]); rw [this]
    obtain ⟨w', hr, hm', hk'⟩ := run_updateB (P := G.P) ht hk0 (hm w hw) (e1.den ε)
    refine .inl ⟨undef, w', .inr ?_, ⟨[], trivial, rfl, rfl, hm'⟩, hk'⟩
    subst hop
    simp [execOp, bare, h1, h2, h3, hr]
  · rintro w l w' hw hl' ⟨rfl, h2⟩ hs
    have := hk w w' hw h2 hs
    simpa using this
theorem den_makeMapB {t type : TypeId} {j : Nat} {drawn : Bool} {tt t' un : List Nat} {fs : Facts} (hj : ∀ v, nth (ε ++ [v]) j = v)
    (hk : ∀ w b w', Shown G ε tt fs wx w → w.heap.size ≤ b → MapB w' b (fun _ => false) → Same w w' → k.den G Λ (ε ++ [.map (some b)]) w' (if drawn then ws else w') (if drawn then X else BlkIn ε t')) :
    (VC.gen (.makeMap t none) type [] [Base.map] (.var j) [] drawn tt t' un fs k).den G Λ ε wx ws X := by
  refine den_gen (fun w l w' => ∃ b, l = [.map (some b)] ∧ w.heap.size ≤ b ∧ MapB w' b (fun _ => false)) ?_ ?_
  · intro w hw ρ hρ
    refine .inl ⟨.map (some w.heap.size), w.alloc (.map #[] 0), .inl ?_, ⟨[.map (some w.heap.size)], ⟨⟨_, rfl⟩, trivial⟩, ?_, w.heap.size, rfl, Nat.le_refl _, mapB_new w⟩, (Kept.refl _ w).alloc _⟩
    · simp [execOp, bare, run_makeMap]
    · simp only [SV.den]; exact (hj _).symm
  · rintro w l w' hw hl ⟨b, rfl, h2, h3⟩ hs
    exact hk w b w' hw h2 h3 hs
/-- a drawn region in which these blocks may change -/
theorem den_startX {t t' : List Nat} {fs : Facts} (Y : World → Nat → Prop) (h : ∀ w, Shown G ε t fs wx w → k.den G Λ ε w w (fun b => Y w b ∨ BlkIn ε t' b)) : (VC.start true t t' fs k).den G Λ ε wx ws X :=
  fun w hw => ⟨fun b => Y w b ∨ BlkIn ε t' b, fun _ hb => .inr hb, h w hw⟩
/-- a read through a pointer into a block -/
theorem den_ldq {i off : Nat} {bs : List Base} {t t' : List Nat} {fs : Facts} (b o : Nat) (l : List Value) (hl : Fits bs l) (hp : nth ε i = .pointer (some ⟨b, o, none⟩))
    (hR : ∀ w, Shown G ε t fs wx w → ∀ (m : Nat) v, l[m]? = some v → w.cell? ⟨b, o + off + m, none⟩ = some v) (hX : ¬ BlkIn ε t' b)
    (hk : ∀ w, Shown G ε t fs wx w → k.den G Λ (ε ++ l) w w (BlkIn ε t')) :
    (VC.start false t t' fs (VC.load (.ptr i off) bs k)).den G Λ ε wx ws X := by
  intro w hw
  refine ⟨l, hl, ⟨⟨b, o + off, none⟩, ?_, hX, fun m v hv => ?_⟩, hk w hw⟩
  · simp only [SV.den, hp, vaddr, addO, Option.map_some, addr_add]
  · rw [addr_add]; exact hR w hw m v hv
theorem den_notnilP {i : Nat} {ad : Addr} (h : nth ε i = .pointer (some ad)) (hk : k.den G Λ ε wx ws X) : (VC.ob (.not (.nil i)) k).den G Λ ε wx ws X :=
  ⟨by simp [BE.den, h, vnil], hk⟩
/-- a store into an element of a slice of one's own, through a pointer -/
theorem den_storeE {α : Type} {E : Enc α} {T : TypeId} {t₀ type : TypeId} {x y : Operand} {off2 : Nat} {sx sy : SV} {drawn : Bool} {t t' un : List Nat} {fs : Facts} {n : Nat} (g c : Nat) (L : List α) (j : Nat) (a a' : α) (v : Value) (vs : List Value)
    (hn : sizeT G.P t₀ = some n) (hs : sx.den ε = .pointer (some ⟨g, j * E.sz + off2, none⟩)) (hx : L[j]? = some a) (hy : sy.den ε = v) (hv : v.cells.toList = vs) (hl : vs.length = n) (h1 : ∀ u ∈ vs, u.oneCell' = true)
    (hle : off2 + n ≤ E.sz) (hpos : 0 < E.sz) (ha : E.enc a' = fillV (E.enc a) off2 vs)
    (hb : ∀ w, Shown G ε t fs wx w → Mine E T w (.slice (some ⟨g, 0, none⟩) L.length c) L)
    (hF : ∀ w, Shown G ε t fs wx w → FpOk G drawn X ε un w g)
    (hk : ∀ w w', Shown G ε t fs wx w → Mine E T w' (.slice (some ⟨g, 0, none⟩) L.length c) (L.set j a') → Kept (fun x => x = g) w w' →
      k.den G Λ ε w' (if drawn then ws else w') (if drawn then X else BlkIn ε t')) :
    (VC.gen (.store t₀ x y) type [(x, sx), (y, sy)] [] undefS [] drawn t t' un fs k).den G Λ ε wx ws X := by
  have hj : j < L.length := (List.getElem?_eq_some_iff.1 hx).1
  have hne : L ≠ [] := by intro e; subst e; simp at hj
  have own : ∀ {w : World}, Mine E T w (.slice (some ⟨g, 0, none⟩) L.length c) L → w.ownsRow 0 T E.sz (.slice (some ⟨g, 0, none⟩) L.length c) L.length (L.flatMap E.enc) := fun h => h.resolve_right fun h' => hne h'.1
  have hjs : j * E.sz + E.sz ≤ L.length * E.sz := by rw [← Nat.succ_mul]; exact Nat.mul_le_mul_right _ hj
  refine den_store g (j * E.sz + off2) v vs hn hs hy hv hl h1 (fun w hw => ?_) (fun w hw => hF w hw) (fun w w' cur ty hw h2 h3 hk' => ?_)
  · obtain ⟨hlen, ⟨e, _⟩ | ⟨g', cap, cur, e, _, hh, hnc, hcm, hcs, ht⟩⟩ := own (hb w hw)
    · cases e
    · cases e
      refine ⟨cur, T, hh, ?_⟩
      rw [hcs]
      have := Nat.mul_le_mul_right E.sz hnc
      omega
  · obtain ⟨hlen, ⟨e, _⟩ | ⟨g', cap, cur, e, _, hh, hnc, hcm, hcs, ht⟩⟩ := own (hb w hw)
    · cases e
    cases e
    rw [hh] at h2
    cases h2
    refine hk w w' hw (.inl ⟨flatMap_length E _, .inr ⟨g, c, _, by rw [List.length_set], Nat.zero_le _, h3, by rw [List.length_set]; exact hnc, hcm, ?_, ?_⟩⟩) hk'
    · have h5 := Nat.mul_le_mul_right E.sz hnc
      have h6 : cur.toList.length = c * E.sz := by simpa using hcs
      rw [List.size_toArray, fillV_length (by rw [h6, hl]; omega), h6]
    · have h5 := Nat.mul_le_mul_right E.sz hnc
      rw [List.length_set, fillV_flatMap E ha (by rw [hl]; exact hle) L j hx, ← ht]
      have e1 : cur.toList = cur.toList.take (L.length * E.sz) ++ cur.toList.drop (L.length * E.sz) := (List.take_append_drop _ _).symm
      have hlt : (cur.toList.take (L.length * E.sz)).length = L.length * E.sz := by rw [List.length_take, show cur.toList.length = c * E.sz by simpa using hcs]; omega
      simp only [List.toList_toArray]
      conv => lhs; rw [e1]
      rw [fillV_append_left (by rw [hlt]; omega), List.take_left' (by rw [fillV_length (by rw [hlt]; omega), hlt])]
end
theorem _root_.Go.Sx.Mine.addr {α : Type} {E : Enc α} {T : TypeId} {w : World} {s : Value} {L : List α} (h : Mine E T w s L) {j : Nat} {x : α} (hx : L[j]? = some x) : ∃ g c, s = .slice (some ⟨g, 0, none⟩) L.length c := by
  rcases h.forms with ⟨_, e⟩ | ⟨g, c, cur, ty, e, _⟩
  · subst e; simp at hx
  · exact ⟨g, c, e⟩
theorem _root_.Go.Sx.Mine.cellAt {α : Type} {E : Enc α} {T : TypeId} {w : World} {g n c : Nat} {L : List α} (h : Mine E T w (.slice (some ⟨g, 0, none⟩) n c) L) {j : Nat} {x : α} (hx : L[j]? = some x) (hpos : 0 < E.sz) {m : Nat} {v : Value} (hv : (E.enc x)[m]? = some v) : w.cell? ⟨g, j * E.sz + m, none⟩ = some v := by
  obtain ⟨ad, had, hc⟩ := h.arr.elem hx hpos
  cases had
  have := hc m v hv
  rwa [addr_add, addr_add, Nat.zero_add] at this

/-! the device as a value -/
structure Geo where
  b : Int
  p : Int
  s : Int
  e : Int
def Geo.cells (g : Geo) : List Value := [.int .i64 g.b, .int .i64 g.p, .int .i64 g.s, .int .i64 g.e]
def Geo.v (g : Geo) : Value := .agg #[.int .i64 g.b, .int .i64 g.p, .int .i64 g.s, .int .i64 g.e]
structure Pg where
  st : Int
  D : List Int
structure Bl where
  ps : List Pg
  nx : Int
  er : Int
structure Dv where
  g : Geo
  F : Int → Bool
  bs : List Bl
  n : Int
  cut : Int
  cb : Int
  off : Bool
/-! the device in memory -/
structure Pv where
  s : Value
  st : Int
structure Bv where
  s : Value
  nx : Int
  er : Int
def pgE : Enc Pv := ⟨fun v => [v.s, .int .i64 v.st], 2, fun _ => rfl⟩
def blE : Enc Bv := ⟨fun v => [v.s, .int .i64 v.nx, .int .i64 v.er], 3, fun _ => rfl⟩
structure PgAt (w : World) (T : Nat → Prop) (v : Pv) (p : Pg) : Prop where
  st : v.st = p.st
  g : Given byteE w v.s p.D
  out : ∀ ad, vaddr v.s = some ad → ¬ T ad.block
structure PgsAt (w : World) (T : Nat → Prop) (L : List Pv) (ps : List Pg) : Prop where
  len : L.length = ps.length
  at_ : ∀ (i : Nat) v p, L[i]? = some v → ps[i]? = some p → PgAt w T v p
def devC (d : Dv) (mf : Nat) (sB : Value) : List Value := [.int .i64 d.g.b, .int .i64 d.g.p, .int .i64 d.g.s, .int .i64 d.g.e, .map (some mf), sB, .int .i64 d.n, .int .i64 d.cut, .int .i64 d.cb, .bool d.off]
structure DevM (w : World) (S T : Nat → Prop) (b mf : Nat) (sB : Value) (Lb : List Bv) (d : Dv) : Prop where
  blk : HasBlk w (pt b) (devC d mf sB)
  map : MapB w mf d.F
  own : Mine blE 81 w sB Lb
  len : Lb.length = d.bs.length
  pg : ∀ (i : Nat) v x, Lb[i]? = some v → d.bs[i]? = some x → v.nx = x.nx ∧ v.er = x.er ∧ ∃ L, Mine pgE 78 w v.s L ∧ PgsAt w T L x.ps
  Sb : S b
  Sm : S mf
  ne : b ≠ mf
  SB : ∀ g, sB.ownBlock = some g → S g ∧ g ≠ b ∧ g ≠ mf
  Sp : ∀ (i : Nat) v, Lb[i]? = some v → ∀ g, v.s.ownBlock = some g → S g ∧ g ≠ b ∧ g ≠ mf ∧ sB.ownBlock ≠ some g
  dis : ∀ (i j : Nat) v u, i ≠ j → Lb[i]? = some v → Lb[j]? = some u → ∀ g, v.s.ownBlock = some g → u.s.ownBlock ≠ some g
  ST : ∀ y, S y → T y
  lt : ∀ y, T y → y < w.heap.size
theorem _root_.Go.Sx.HasBlk.keptA {w w' : World} {b : Nat} {l : List Value} {M : Nat → Prop} (h : HasBlk w (pt b) l) (hk : Kept M w w') (hM : ¬ M b) : HasBlk w' (pt b) l := by
  obtain ⟨b', ty, e, hh⟩ := h
  cases e
  exact ⟨b, ty, rfl, (hk.block b (Array.getElem?_eq_some_iff.1 hh).1 hM).trans hh⟩
theorem PgAt.kept {w w' : World} {T M : Nat → Prop} {v : Pv} {p : Pg} (h : PgAt w T v p) (hk : Kept M w w') (hM : ∀ y, y < w.heap.size → M y → T y) : PgAt w' T v p :=
  ⟨h.st, h.g.kept hk fun ad had hm => h.out ad had (hM _ (h.g.2.2.2 ad had) hm), h.out⟩
theorem PgAt.grow {w : World} {T T' : Nat → Prop} {v : Pv} {p : Pg} (h : PgAt w T v p) (hT : ∀ y, y < w.heap.size → T' y → T y) : PgAt w T' v p :=
  ⟨h.st, h.g, fun ad had hm => h.out ad had (hT _ (h.g.2.2.2 ad had) hm)⟩
theorem PgAt.kept' {w w' : World} {T T' M : Nat → Prop} {v : Pv} {p : Pg} (h : PgAt w T' v p) (h0 : PgAt w T v p) (hk : Kept M w w') (hM : ∀ y, y < w.heap.size → M y → T y) : PgAt w' T' v p :=
  ⟨h.st, h.g.kept hk fun ad had hm => h0.out ad had (hM _ (h.g.2.2.2 ad had) hm), h.out⟩
theorem PgsAt.kept {w w' : World} {T M : Nat → Prop} {v : List Pv} {p : List Pg} (h : PgsAt w T v p) (hk : Kept M w w') (hM : ∀ y, y < w.heap.size → M y → T y) : PgsAt w' T v p :=
  ⟨h.len, fun i v p h1 h2 => (h.at_ i v p h1 h2).kept hk hM⟩
theorem PgsAt.keptGrow {w w' : World} {T T' M : Nat → Prop} {v : List Pv} {p : List Pg} (h : PgsAt w T v p) (hk : Kept M w w') (hM : ∀ y, y < w.heap.size → M y → T y) (hT : ∀ y, y < w.heap.size → T' y → T y) : PgsAt w' T' v p :=
  ⟨h.len, fun i v p h1 h2 => ((h.at_ i v p h1 h2).grow hT).kept' (h.at_ i v p h1 h2) hk hM⟩
section
variable {w w' : World} {S T S' T' M : Nat → Prop} {b mf : Nat} {sB : Value} {Lb : List Bv} {d : Dv}
theorem DevM.kept (h : DevM w S T b mf sB Lb d) (hk : Kept M w w') (h1 : ∀ y, y < w.heap.size → M y → T y) (h2 : ∀ y, y < w.heap.size → M y → ¬ S y) : DevM w' S T b mf sB Lb d :=
  have lt := fun {y} (hy : S y) => h.lt y (h.ST y hy)
  have no := fun {y} (hy : S y) (hm : M y) => h2 y (lt hy) hm hy
  ⟨h.blk.keptA hk (no h.Sb), h.map.kept hk (no h.Sm), h.own.kept hk fun g hg => no (h.SB g hg).1, h.len,
   fun i v x hv hx => let ⟨e1, e2, L, hL, hp⟩ := h.pg i v x hv hx; ⟨e1, e2, L, hL.kept hk fun g hg => no (h.Sp i v hv g hg).1, hp.kept hk h1⟩,
   h.Sb, h.Sm, h.ne, h.SB, h.Sp, h.dis, h.ST, fun y hy => Nat.lt_of_lt_of_le (h.lt y hy) hk.size⟩
theorem DevM.same (h : DevM w S T b mf sB Lb d) (hk : Same w w') : DevM w' S T b mf sB Lb d := h.kept hk (fun _ _ h => h.elim) (fun _ _ h => h.elim)
theorem _root_.Go.Sx.HasBlk.notRecA {b : Nat} {l : List Value} (h : HasBlk w (pt b) l) : ¬ IsRec w b := by
  obtain ⟨b', ty, e, hh⟩ := h
  cases e
  rintro ⟨o, ho, hr⟩
  rw [hh] at ho
  cases ho
  cases hr
end
end Go.Proofs.Ytppbapnibpeolaa
