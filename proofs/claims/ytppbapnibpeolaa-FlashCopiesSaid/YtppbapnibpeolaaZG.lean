/- A copy of a flash device. No conditions beyond those that each theorem names. -/
import Derived.Test.YtppbapnibpeolaaZE
import Derived.WalkKit
import Derived.Shelf.SlMaps.Clone
set_option maxRecDepth 100000
set_option maxHeartbeats 4000000
set_option linter.unusedVariables false
set_option linter.unusedSimpArgs false
namespace Go.Proofs.Ytppbapnibpeolaa
open Go.Shelf
def cloneM_ren : Go.Shelf.Ren := ⟨fun | 5 => 36 | 7 => 60 | n => n, fun | 23 => 47 | 25 => 3 | 3 => 4 | 4 => 4 | 20 => 20 | n => n, fun n => n⟩
theorem cloneM : SlLaysW.n5 Try.prog cloneM_ren where
  mixed := by kernel_rfl
  f5 := ⟨Try.f36.name, by decide, Try.func36.trans (congrArg some (by kernel_rfl))⟩
  f7 := Try.func60.trans (congrArg some (by kernel_rfl))
  t4 := Try.underlying4
  a4 := Try.isAgg4
  z4 := Try.sizeOf4
  v4 := Try.zeroValue4
  t20 := Try.underlying20
  a20 := Try.isAgg20
  z20 := Try.sizeOf20
  v20 := Try.zeroValue20
  t23 := Try.underlying47
  a23 := Try.isAgg47
  z23 := Try.sizeOf47
  v23 := Try.zeroValue47
end Go.Proofs.Ytppbapnibpeolaa
namespace Go.Proofs.Ytppbapnibpeolaa
open Go.Sx Go.Maps Go.RowKit

theorem c36 (F : Int → Bool) (m : Nat) (w : World) (h : MapB w m F) : GivesR Try.prog 36 [.map (some m)] w (fun v w' => ∃ m', v = .map (some m') ∧ w.heap.size ≤ m' ∧ MapB w' m' F) := by
  obtain ⟨es, clock, hh, hs, h1, h2⟩ := h
  have hcon := AnyW.maps_Clone cloneM m es clock w hh
  change Calls Try.prog 36 _ _ _ at hcon
  refine ⟨hcon.mono ?_⟩
  rintro e w' ⟨rfl, rfl⟩
  exact ⟨_, rfl, ⟨w.heap.size, rfl, Nat.le_refl _, es, clock, (MapKept.heap_alloc w _).1, hs, h1, h2⟩, (Kept.refl _ w).alloc _⟩
def isSl (v : Value) : Prop := ∃ a n c, v = .slice a n c
abbrev PvS := { v : Pv // isSl v.s }
def psE : Enc PvS := ⟨fun v => [v.1.s, .int .i64 v.1.st], 2, fun _ => rfl⟩
theorem ps_one (x : PvS) : ∀ u ∈ psE.enc x, u.oneCell' = true := by
  obtain ⟨v, a, n, c, e⟩ := x
  intro u hu
  simp only [psE, List.mem_cons, List.not_mem_nil, or_false] at hu
  rcases hu with rfl | rfl
  · rw [e]; rfl
  · rfl
abbrev BvS := { v : Bv // isSl v.s }
def bsE : Enc BvS := ⟨fun v => [v.1.s, .int .i64 v.1.nx, .int .i64 v.1.er], 3, fun _ => rfl⟩
theorem bs_one (x : BvS) : ∀ u ∈ bsE.enc x, u.oneCell' = true := by
  obtain ⟨v, a, n, c, e⟩ := x
  intro u hu
  simp only [bsE, List.mem_cons, List.not_mem_nil, or_false] at hu
  rcases hu with rfl | rfl | rfl
  · rw [e]; rfl
  · rfl
  · rfl
section
variable {α : Type} {p : α → Prop} {E : Enc α} {E' : Enc {x // p x}} {w : World} {s : Value}
theorem flat_sub (he : ∀ x, E'.enc x = E.enc x.1) (L : List {x // p x}) : L.flatMap E'.enc = (L.map (·.1)).flatMap E.enc := by
  rw [List.flatMap_map]
  exact congrArg (fun f => L.flatMap f) (funext he)
theorem _root_.Go.Sx.Arr.subs {L : List {x // p x}} (h : Arr E w s (L.map (·.1))) (hz : E'.sz = E.sz) (he : ∀ x, E'.enc x = E.enc x.1) : Arr E' w s L := by
  unfold Arr at h ⊢
  rw [hz, flat_sub he]
  simpa using h
theorem _root_.Go.Sx.Mine.unsub {T : TypeId} {L : List {x // p x}} (h : Mine E' T w s L) (hz : E'.sz = E.sz) (he : ∀ x, E'.enc x = E.enc x.1) : Mine E T w s (L.map (·.1)) := by
  rcases h with h | ⟨rfl, h⟩
  · left
    rw [hz, flat_sub he] at h
    simpa using h
  · exact .inr ⟨rfl, h⟩
theorem lift_list : ∀ (L : List α), (∀ x ∈ L, p x) → ∃ L' : List {x // p x}, L'.map (·.1) = L
  | [], _ => ⟨[], rfl⟩
  | x :: L, h => by
    obtain ⟨L', e⟩ := lift_list L fun y hy => h y (List.mem_cons_of_mem _ hy)
    exact ⟨⟨x, h x (List.mem_cons_self ..)⟩ :: L', by rw [List.map_cons, e]⟩
end
theorem c39 (s : Value) (L : List Pv) (w : World) (hs : Arr pgE w s L) (hsl : ∀ x ∈ L, isSl x.s) (hm : L.length ≤ 60000) : GivesR Try.prog 39 [s] w (fun v w' => Mine pgE 78 w' v L ∧ ∀ g, v.ownBlock = some g → w.heap.size ≤ g) := by
  obtain ⟨L', rfl⟩ := lift_list (p := fun v : Pv => isSl v.s) L hsl
  refine (clone_slice (E := psE) (T := 78) mix t39 u79 i78 z78 s78 rfl (by decide) by78 ps_one s L' w (hs.subs rfl fun _ => rfl) (by simpa using Nat.le_trans hm (by decide))).mono fun v w' ⟨h1, h2, _⟩ => ⟨h1.unsub rfl fun _ => rfl, h2⟩
theorem c38 (s : Value) (nx er : Int) (L : List Pv) (w : World) (hs : Arr pgE w s L) (hsl : ∀ x ∈ L, isSl x.s) (hm : L.length ≤ 60000) : GivesR Try.prog 38 [.agg #[s, .int .i64 nx, .int .i64 er]] w (fun v w' => ∃ s', v = .agg #[s', .int .i64 nx, .int .i64 er] ∧ Mine pgE 78 w' s' L ∧ ∀ g, s'.ownBlock = some g → w.heap.size ≤ g) := by
  obtain ⟨a, c, rfl⟩ := hs.slice
  refine givesR mix t38 rfl rfl (ε := [.slice a L.length c, .int .i64 nx, .int .i64 er]) ⟨⟨_, _, _, rfl⟩, ⟨_, rfl⟩, ⟨_, rfl⟩, trivial⟩ (den_blk fun b3 k3 _ _ => den_norm (by simp only [List.cons_append, List.nil_append]; rfl) (den_blk fun b4 k4 _ _ => den_norm (by simp only [List.cons_append, List.nil_append]; rfl) ?_))
  have z3 : w.heap.size ≤ b3 := k3
  have z4 : w.heap.size ≤ b4 := k4
  refine den_callR (fun w5 l w6 => ∃ v, l = [v] ∧ Mine pgE 78 w6 v L ∧ ∀ g, v.ownBlock = some g → w5.heap.size ≤ g) (fun w5 h5 => ?_) (fun w5 l w6 h5 hfl hR k56 => ?_)
  · refine (c39 _ L w5 (hs.same (shown_same h5)) hsl hm).mono fun v w' ⟨q1, q2⟩ => ?_
    obtain ⟨va, vc, hv⟩ := q1.slice
    exact ⟨[v], ⟨⟨_, _, _, hv⟩, trivial⟩, rfl, v, rfl, q1, q2⟩
  obtain ⟨v, rfl, q1, q2⟩ := hR
  have l3 : b3 < w5.heap.size := h5.lt (i := 3) (by simp [keys]) rfl
  have l4 : b4 < w5.heap.size := h5.lt (i := 4) (by simp [keys]) rfl
  have z5 : w.heap.size ≤ w5.heap.size := h5.base.size
  refine den_norm (by simp only [List.cons_append, List.nil_append]; rfl) (den_leafR _ rfl fun w7 h7 => ⟨v, rfl, q1.kept h7.kept fun g hg hin => ?_, fun g hg => by have := q2 g hg; omega⟩)
  have := q2 g hg
  simp [BlkIn, nth, blkOf, vaddr] at hin
  omega
/-- the blocks of a copy, so far -/
structure CopB (w0 : Nat) (w : World) (out : Value) (Lb : List Bv) (PL : Nat → List Pv) (Lo : List BvS) : Prop where
  own : Mine bsE 81 w out Lo
  fr : ∀ g, out.ownBlock = some g → w0 ≤ g
  el : ∀ (i : Nat) v u, Lb[i]? = some v → Lo[i]? = some u → u.1.nx = v.nx ∧ u.1.er = v.er ∧ Mine pgE 78 w u.1.s (PL i) ∧ ∀ g, u.1.s.ownBlock = some g → w0 ≤ g ∧ out.ownBlock ≠ some g
  dis : ∀ (i j : Nat) u v, i ≠ j → Lo[i]? = some u → Lo[j]? = some v → ∀ g, u.1.s.ownBlock = some g → v.1.s.ownBlock ≠ some g
  le : Lo.length ≤ Lb.length
theorem CopB.same {w0 : Nat} {w w' : World} {out : Value} {Lb : List Bv} {PL : Nat → List Pv} {Lo : List BvS} (h : CopB w0 w out Lb PL Lo) (hk : Same w w') : CopB w0 w' out Lb PL Lo :=
  ⟨h.own.same hk, h.fr, fun i v u h1 h2 => let ⟨q1, q2, q3, q4⟩ := h.el i v u h1 h2; ⟨q1, q2, q3.same hk, q4⟩, h.dis, h.le⟩
theorem c37 (s : Value) (Lb : List Bv) (PL : Nat → List Pv) (w : World) (hs : Arr blE w s Lb) (hp : ∀ (i : Nat) v, Lb[i]? = some v → Arr pgE w v.s (PL i) ∧ (∀ x ∈ PL i, isSl x.s) ∧ (PL i).length ≤ 60000) (hm : Lb.length ≤ 60000) :
    GivesR Try.prog 37 [s, fnV 38 []] w (fun v w' => ∃ Lo, CopB w.heap.size w' v Lb PL Lo ∧ Lo.length = Lb.length) := by
  obtain ⟨a, c, rfl⟩ := hs.slice
  refine givesR mix t37 rfl rfl (ε := [.slice a Lb.length c, fnV 38 []]) ⟨⟨_, _, _, rfl⟩, rfl, trivial⟩ ?_
  refine den_loop (fun ls w' => ∃ (j : Nat) (out : Value) (Lo : List BvS), j ≤ Lb.length ∧ ls = [.int .i64 (j : Int), out] ∧ CopB w.heap.size w' out Lb PL Lo ∧ Lo.length = j) (fun ls _ => Lb.length - (vint (nth ls 0)).toNat) (fun w1 h1 => ⟨0, _, [], by omega, rfl, ⟨Mine.nil, fun g hg => (by cases hg), fun i v u _ h => by simp at h, fun i j u v _ h => by simp at h, by simp⟩, rfl⟩) ?_
  rintro w1 l w2 h1 hfl ⟨j, out, Lo, hj, rfl, hC, hlo⟩ hk2 hfa2
  obtain ⟨oa, oc, e0⟩ := hC.own.slice
  rw [hlo] at e0
  subst e0
  have zW : w.heap.size ≤ w2.heap.size := hk2.size
  have hA := hs.same hk2
  refine den_norm (by simp only [List.cons_append, List.nil_append]; rfl) (den_splitLt (fun hlt => ?_) (fun hge => ?_))
  rotate_left
  · have hge' : (Lb.length : Int) ≤ (j : Int) := hge
    exact den_leaf' fun w3 h3 => (if_neg (by decide)).mpr ⟨_, rfl, ⟨Lo, hC.same (shown_same h3), by omega⟩, h3.base⟩
  have hlt' : j < Lb.length := by have : (j : Int) < (Lb.length : Int) := hlt; omega
  obtain ⟨x, hx⟩ : ∃ x, Lb[j]? = some x := ⟨_, List.getElem?_eq_getElem hlt'⟩
  obtain ⟨hxp, hxs, hxl⟩ := hp j x hx
  obtain ⟨xa, xc, ex⟩ := hxp.slice
  refine den_idx2 (E := blE) (L := Lb) x j [.slice xa (PL j).length xc, .int .i64 x.nx, .int .i64 x.er] hA rfl (by decide) rfl hx ⟨⟨_, _, _, rfl⟩, ⟨_, rfl⟩, ⟨_, rfl⟩, trivial⟩ (fun m u hu => by simp only [blE, ex]; simpa using hu) (fun w3 h3 => hA.same (shown_same h3)) (fun ad had hin => by simp [BlkIn, nth, blkOf, vaddr] at hin) (fun w3 h3 => den_norm (by simp only [List.cons_append, List.nil_append]; rfl) (den_blk fun b7 k7 _ _ => den_norm (by simp only [List.cons_append, List.nil_append]; rfl) ?_))
  have z3 : w2.heap.size ≤ w3.heap.size := h3.kept.size
  have z7 : w3.heap.size ≤ b7 := k7
  refine den_callF rfl rfl (by kernel_rfl) (fun _ _ => False) (fun w4 l w5 => ∃ s', l = [s', .int .i64 x.nx, .int .i64 x.er] ∧ Mine pgE 78 w5 s' (PL j) ∧ ∀ g, s'.ownBlock = some g → w4.heap.size ≤ g) (fun _ _ _ h _ => h.elim) (fun w4 h4 => ?_) (fun w4 l w5 h4 hfl hR hk5 => ?_)
  · have := c38 (.slice xa (PL j).length xc) x.nx x.er (PL j) w4 (by rw [← ex]; exact hxp.same h4.base) hxs hxl
    refine ⟨Calls.mono this.run fun e w' ⟨v, h1, ⟨s', e2, q1, q2⟩, h3⟩ => ⟨v, h1, ?_, h3⟩⟩
    obtain ⟨va, vc, hv⟩ := q1.slice
    exact ⟨[s', .int .i64 x.nx, .int .i64 x.er], ⟨⟨_, _, _, hv⟩, ⟨_, rfl⟩, ⟨_, rfl⟩, trivial⟩, e2, s', rfl, q1, q2⟩
  obtain ⟨s', rfl, q1, q2⟩ := hR
  have s34 : Same w3 w4 := shown_new h4 fun y hy => by simp [BlkIn, nth, blkOf, vaddr] at hy; omega
  have s24 : Same w2 w4 := (shown_same h3).trans s34
  have z24 : w2.heap.size ≤ w4.heap.size := s24.size
  have z45 : w4.heap.size ≤ w5.heap.size := hk5.size
  have l7 : b7 < w4.heap.size := h4.lt (i := 7) (by simp [keys]) rfl
  have C5 := (hC.same s24).same hk5
  obtain ⟨sa', sc', es'⟩ := q1.slice
  let xo : BvS := ⟨⟨s', x.nx, x.er⟩, _, _, _, es'⟩
  refine den_norm (by simp only [List.cons_append, List.nil_append]; rfl) (den_blk fun b11 k11 _ _ => den_norm (by simp only [List.cons_append, List.nil_append]; rfl) ?_)
  have z11 : w5.heap.size ≤ b11 := k11
  refine den_push (E := bsE) (T := 81) rfl u48 i81 z81 s81 rfl (by decide) by81 bs_one (.slice oa j oc) Lo xo rfl rfl rfl (by omega) (fun g hg _ => .inl (hC.fr g hg)) (by simp [keys]) (fun wa ha => C5.own.same (shown_same ha)) ?_ (fun hd => by cases hd) (fun _ => rfl) (fun wa v' wb ha hv' kab hfr hap => den_norm (by simp only [List.cons_append, List.nil_append]; rfl) ?_)
  · intro g hg _ hin2
    have q3 := hC.own.lt hg
    simp [BlkIn, nth, blkOf, vaddr] at hin2
    omega
  have za : w5.heap.size ≤ wa.heap.size := ha.kept.size
  have Ca := C5.same (shown_same ha)
  have lo5 : ∀ g, (Value.slice oa j oc).ownBlock = some g → g < w2.heap.size := fun g hg => hC.own.lt hg
  have old : ∀ (i : Nat) v u, Lb[i]? = some v → Lo[i]? = some u → ∀ g, u.1.s.ownBlock = some g → g < w2.heap.size := fun i v u h1 h2 g hg => (hC.el i v u h1 h2).2.2.1.lt hg
  have keep : ∀ (t : Value) (L : List Pv), Mine pgE 78 wa t L → (∀ g, t.ownBlock = some g → (Value.slice oa j oc).ownBlock ≠ some g) → Mine pgE 78 wb t L := fun t L hM hne => hM.kept kab fun g hg hin => hne g hg hin.1
  have case : ∀ {i : Nat} {u : BvS}, (Lo ++ [xo])[i]? = some u → (i < j ∧ Lo[i]? = some u) ∨ (i = j ∧ u = xo) := fun {i u} hu => by
    by_cases hi : i < Lo.length
    · rw [List.getElem?_append_left hi] at hu
      exact .inl ⟨by omega, hu⟩
    · rw [List.getElem?_append_right (by omega)] at hu
      have e0 : i - Lo.length = 0 := by
        have := (List.getElem?_eq_some_iff.1 hu).1
        simp at this
        omega
      rw [e0] at hu
      exact .inr ⟨by omega, by simpa using hu.symm⟩
  have fr' : ∀ g, v'.ownBlock = some g → (Value.slice oa j oc).ownBlock = some g ∨ wa.heap.size ≤ g := fun g hg => by
    rcases hfr with ⟨e, _⟩ | ⟨b', e, hb', _⟩
    · rw [e] at hg; exact .inl hg
    · rw [e] at hg; cases hg; exact .inr hb'
  refine den_ob64 ⟨by simp only [IE.den, nth, vint]; omega, by simp only [IE.den, nth, vint]; omega⟩ (den_leaf_eq fun w11 g11 => ⟨⟨j + 1, v', Lo ++ [xo], by omega, ?_, ?_, by simp; omega⟩, ?_⟩)
  · show [Value.int .i64 ((j : Int) + 1), v'] = _
    rw [show ((j : Int) + 1) = ((j + 1 : Nat) : Int) by simp]
  · refine CopB.same ⟨hv', fun g hg => ?_, fun i v u h1 h2 => ?_, fun i i' u v hne h1 h2 g hg => ?_, by simp; omega⟩ (shown_same g11)
    · rcases fr' g hg with h | h
      · exact hC.fr g h
      · omega
    · rcases case h2 with ⟨hi, h3⟩ | ⟨rfl, rfl⟩
      · obtain ⟨r1, r2, r3, r4⟩ := Ca.el i v u h1 h3
        refine ⟨r1, r2, keep _ _ r3 fun g hg => (r4 g hg).2, fun g hg => ⟨(r4 g hg).1, fun e => ?_⟩⟩
        rcases fr' g e with h | h
        · exact (r4 g hg).2 h
        · have := old i v u h1 h3 g hg; omega
      · rw [hx] at h1
        cases h1
        refine ⟨rfl, rfl, keep _ _ (q1.same (shown_same ha)) fun g hg e => ?_, fun g hg => ⟨?_, fun e => ?_⟩⟩
        · have := q2 g hg; have := lo5 g e; omega
        · have := q2 g hg; omega
        · have r1 := q2 g hg
          have r2 := q1.lt hg
          rcases fr' g e with h | h
          · have := lo5 g h; omega
          · omega
    · have lv : ∀ {i : Nat} {u : BvS}, i < j → Lo[i]? = some u → ∀ g, u.1.s.ownBlock = some g → g < w2.heap.size := fun {i u} hi hu g hg => by
        obtain ⟨v0, hv0⟩ : ∃ v0, Lb[i]? = some v0 := ⟨_, List.getElem?_eq_getElem (by omega)⟩
        exact old i v0 u hv0 hu g hg
      rcases case h1 with ⟨hi, hu1⟩ | ⟨e1, hu1⟩ <;> rcases case h2 with ⟨hi', hu2⟩ | ⟨e2, hu2⟩
      · exact hC.dis i i' u v hne hu1 hu2 g hg
      · intro e
        rw [hu2] at e
        have := lv hi hu1 g hg
        have := q2 g e
        omega
      · intro e
        rw [hu1] at hg
        have := lv hi' hu2 g e
        have := q2 g hg
        omega
      · exact absurd (e1.trans e2.symm) hne
  · show Lb.length - ((j : Int) + 1).toNat < Lb.length - (j : Int).toNat
    omega
section
variable {w : World} {S T : Nat → Prop} {b mf : Nat} {sB : Value} {Lb : List Bv} {d : Dv}
theorem DevM.lists (h : DevM w S T b mf sB Lb d) : ∃ PL : Nat → List Pv, ∀ (i : Nat) v x, Lb[i]? = some v → d.bs[i]? = some x → Mine pgE 78 w v.s (PL i) ∧ PgsAt w T (PL i) x.ps := by
  have q : ∀ i : Nat, ∃ L, ∀ v x, Lb[i]? = some v → d.bs[i]? = some x → Mine pgE 78 w v.s L ∧ PgsAt w T L x.ps := fun i => by
    cases hv : Lb[i]? with
    | none => exact ⟨[], fun v x e => by cases e⟩
    | some v =>
      cases hx : d.bs[i]? with
      | none => exact ⟨[], fun _ x _ e => by cases e⟩
      | some x =>
        obtain ⟨_, _, L, h1, h2⟩ := h.pg i v x hv hx
        exact ⟨L, fun v' x' e1 e2 => by cases e1; cases e2; exact ⟨h1, h2⟩⟩
  exact ⟨fun i => (q i).choose, fun i => (q i).choose_spec⟩
theorem c14 (w : World) (h : DevM w S T b mf sB Lb d) (hw : Wf d) : GivesR Try.prog 14 [pt b] w (fun v w' => ∃ b2 mf2 sB2 Lb2, v = pt b2 ∧ DevM w' (fun y => w.heap.size ≤ y ∧ y < w'.heap.size) (fun y => T y ∨ (w.heap.size ≤ y ∧ y < w'.heap.size)) b2 mf2 sB2 Lb2 d) := by
  obtain ⟨g, c, e0⟩ := h.form hw
  subst e0
  obtain ⟨PL, hPL⟩ := h.lists
  have hlb : Lb.length ≤ 8 := by have := h.len; have := hw.len; have := hw.b1; omega
  have at_ : ∀ {i : Nat} {v : Bv}, Lb[i]? = some v → ∃ x, d.bs[i]? = some x := fun {i v} hv => ⟨_, List.getElem?_eq_getElem (by have := (List.getElem?_eq_some_iff.1 hv).1; have := h.len; omega)⟩
  refine givesR mix t14 rfl rfl (ε := [pt b]) ⟨⟨_, rfl⟩, trivial⟩ ?_
  refine den_call_bool (b := false) (fun w1 h1 => c33 w1 (h.same h1.base) hw) rfl (fun w1 w2 h1 h2 => den_norm (by simp only [List.cons_append, List.nil_append]; rfl) (den_split_false rfl ?_))
  have s2 := (shown_same h1).trans h2
  refine den_notnil (i := 0) h.blk.pts ?_
  refine den_ldp (devC d mf (slc0 g Lb.length c)) (devC d mf (slc0 g Lb.length c)) ⟨⟨_, rfl⟩, ⟨_, rfl⟩, ⟨_, rfl⟩, ⟨_, rfl⟩, ⟨_, rfl⟩, ⟨_, _, _, rfl⟩, ⟨_, rfl⟩, ⟨_, rfl⟩, ⟨_, rfl⟩, ⟨_, rfl⟩, trivial⟩ (whole _) (fun w3 h3 => ((h.same s2).same (shown_same h3)).blk.pts) (fun _ _ => by simp [BlkIn]) fun w3 h3 => ?_
  refine den_norm (by simp only [List.cons_append, List.nil_append, devC]; rfl) (den_blk fun b12 k12 _ kW12 => den_norm (by simp only [List.cons_append, List.nil_append]; rfl) ?_)
  have s3 := s2.trans (shown_same h3)
  have z12 : w3.heap.size ≤ b12 := k12
  have zW : w.heap.size ≤ b12 := kW12
  refine den_ldp [.map (some mf)] (devC d mf (slc0 g Lb.length c)) ⟨⟨_, rfl⟩, trivial⟩ (cellk _ 4 _ rfl) (fun w4 h4 => (h.same h4.base).blk.pts) (fun y hy hin => by simp [BlkIn, nth, blkOf, vaddr] at hin) fun w4 h4 => den_norm (by simp only [List.cons_append, List.nil_append]; rfl) ?_
  refine den_callR (fun wa l wb => ∃ m2, l = [.map (some m2)] ∧ wa.heap.size ≤ m2 ∧ MapB wb m2 d.F) (fun w5 h5 => ?_) (fun w5 l w6 h5 hfl hR k56 => ?_)
  · exact (c36 d.F mf w5 (h.map.same h5.base)).mono fun v w' ⟨m2, e, q1, q2⟩ => ⟨[.map (some m2)], ⟨⟨_, rfl⟩, trivial⟩, e, m2, rfl, q1, q2⟩
  obtain ⟨m2, rfl, qm, hm2⟩ := hR
  have l12 : b12 < w5.heap.size := h5.lt (i := 12) (by simp [keys]) rfl
  have zW5 : w.heap.size ≤ w5.heap.size := h5.base.size
  have lm2 := hm2.lt
  refine den_norm (by simp only [List.cons_append, List.nil_append]; rfl) ?_
  refine den_ldp [slc0 g Lb.length c] (devC d mf (slc0 g Lb.length c)) ⟨⟨_, _, _, rfl⟩, trivial⟩ (cellk _ 5 _ rfl) (fun w7 h7 => (h.same h7.base).blk.pts) (fun y hy hin => by simp [BlkIn, nth, blkOf, vaddr] at hin) fun w7 h7 => den_norm (by simp only [List.cons_append, List.nil_append]; rfl) ?_
  have z67 : w6.heap.size ≤ w7.heap.size := h7.kept.size
  have hm7 := hm2.kept h7.kept (by intro hin; simp [BlkIn, nth, blkOf, vaddr] at hin; omega)
  refine den_callR (fun wa l wb => ∃ v Lo, l = [v] ∧ CopB wa.heap.size wb v Lb PL Lo ∧ Lo.length = Lb.length) (fun w8 h8 => ?_) (fun w8 l w9 h8 hfl8 hR k89 => ?_)
  · refine (c37 _ Lb PL w8 (h.own.arr.same h8.base) (fun i v hv => ?_) (by omega)).mono fun v w' ⟨Lo, q1, q2⟩ => ?_
    · obtain ⟨x, hx⟩ := at_ hv
      obtain ⟨r1, r2⟩ := hPL i v x hv hx
      refine ⟨r1.arr.same h8.base, fun u hu => ?_, ?_⟩
      · obtain ⟨k, hk⟩ := List.getElem?_of_mem hu
        obtain ⟨q, hq⟩ : ∃ q, x.ps[k]? = some q := ⟨_, List.getElem?_eq_getElem (by have := (List.getElem?_eq_some_iff.1 hk).1; have := r2.len; omega)⟩
        obtain ⟨ua, uc, e⟩ := (r2.at_ k u q hk hq).g.1.slice
        exact ⟨_, _, _, e⟩
      · have := r2.len
        have := (hw.bl i x hx).len
        have := hw.p1
        omega
    · obtain ⟨va, vc, e⟩ := q1.own.slice
      exact ⟨[v], ⟨⟨_, _, _, e⟩, trivial⟩, rfl, v, Lo, rfl, q1, q2⟩
  obtain ⟨v, Lo, rfl, hC, hlo⟩ := hR
  have z78 : w7.heap.size ≤ w8.heap.size := h8.kept.size
  have z89 : w8.heap.size ≤ w9.heap.size := k89.size
  have hm9 := (hm7.same (shown_same h8)).same k89
  refine den_norm (by simp only [List.cons_append, List.nil_append]; rfl) (den_leafR _ rfl fun wz hz => ⟨b12, m2, v, Lo.map (·.1), rfl, ?_⟩)
  have zz : w9.heap.size ≤ wz.heap.size := hz.kept.size
  have n12 : ∀ {y}, BlkIn [pt b, .bool false, .int .i64 d.g.b, .int .i64 d.g.p, .int .i64 d.g.s, .int .i64 d.g.e, .map (some mf), slc0 g Lb.length c, .int .i64 d.n, .int .i64 d.cut, .int .i64 d.cb, .bool d.off, pt b12, .map (some mf), .map (some m2), slc0 g Lb.length c, v] [12] y → y = b12 := fun {y} hy => by simpa [BlkIn, nth, blkOf, vaddr, eq_comm] using hy
  have hb : HasBlk wz (pt b12) (devC d m2 v) := hz.facts.1
  have hu : ∀ {i : Nat} {u : Bv}, (Lo.map (·.1))[i]? = some u → ∃ u' : BvS, Lo[i]? = some u' ∧ u = u'.1 := fun {i u} hu => by
    rw [List.getElem?_map] at hu
    obtain ⟨u', h1, h2⟩ := Option.map_eq_some_iff.1 hu
    exact ⟨u', h1, h2.symm⟩
  have lbA : ∀ {i : Nat} {u : BvS}, Lo[i]? = some u → ∃ v0 x, Lb[i]? = some v0 ∧ d.bs[i]? = some x := fun {i u} hu => by
    have q := (List.getElem?_eq_some_iff.1 hu).1
    have q2 := List.getElem?_eq_getElem (show i < Lb.length by omega)
    obtain ⟨x, hx⟩ := at_ q2
    exact ⟨_, x, q2, hx⟩
  refine ⟨hb, hm9.kept hz.kept (fun hin => by have := n12 hin; omega), (hC.own.unsub (E := blE) rfl fun _ => rfl).kept hz.kept (fun y hy hin => by have := hC.fr y hy; have := n12 hin; omega), by rw [List.length_map, hlo]; exact h.len, fun i u x h1 h2 => ?_, ⟨zW, by omega⟩, ⟨by omega, by omega⟩, by omega, fun y hy => ?_, fun i u h1 y hy => ?_, fun i i' u u2 hne h1 h2 => ?_, fun y hy => .inr hy, fun y hy => ?_⟩
  · obtain ⟨u', h3, rfl⟩ := hu h1
    obtain ⟨v0, x', h4, h5'⟩ := lbA h3
    rw [h2] at h5'
    cases h5'
    obtain ⟨r1, r2, r3, r4⟩ := hC.el i v0 u' h4 h3
    obtain ⟨e1, e2, _⟩ := h.pg i v0 x h4 h2
    refine ⟨r1.trans e1, r2.trans e2, PL i, r3.kept hz.kept (fun y hy hin => by have := (r4 y hy).1; have := n12 hin; omega), (hPL i v0 x h4 h2).2.keptGrow hz.base (fun _ _ h => h.elim) fun y hy hy2 => hy2.resolve_right (by omega)⟩
  · have q1 := hC.fr y hy
    have q2 := hC.own.lt hy
    exact ⟨⟨by omega, by omega⟩, by omega, by omega⟩
  · obtain ⟨u', h3, rfl⟩ := hu h1
    obtain ⟨v0, x', h4, h5'⟩ := lbA h3
    obtain ⟨r1, r2, r3, r4⟩ := hC.el i v0 u' h4 h3
    have q1 := r4 y hy
    have q2 := r3.lt hy
    exact ⟨⟨by omega, by omega⟩, by omega, by omega, q1.2⟩
  · obtain ⟨u', h3, rfl⟩ := hu h1
    obtain ⟨u3, h4, rfl⟩ := hu h2
    exact hC.dis i i' u' u3 hne h3 h4
  · rcases hy with hy | hy
    · have := h.lt y hy
      omega
    · exact hy.2
end
end Go.Proofs.Ytppbapnibpeolaa
