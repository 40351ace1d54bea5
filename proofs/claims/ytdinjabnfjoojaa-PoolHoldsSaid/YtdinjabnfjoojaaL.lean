/- The law PoolPlays returns true for every list of erase counts and of calls. No conditions beyond those that each theorem names. -/
import Derived.Test.YtdinjabnfjoojaaK
import Derived.Test.YtdinjabnfjoojaaV
set_option maxRecDepth 100000
set_option maxHeartbeats 1000000
set_option linter.unusedVariables false
set_option linter.unusedSimpArgs false
namespace Go.Proofs.Ytdinjabnfjoojaa
open Go.Sx

def actE : Enc ActT := ⟨fun a => [.int .i64 a.wh, .int .i64 a.i, .int .i64 a.st, .int .i64 a.er], 4, fun _ => rfl⟩
/-- what New leaves -/
def NewR (A : List Int) (w0 w : World) (p : Value) : Prop := (newE A ≠ 0 → p = .pointer none) ∧ (newE A = 0 → ∃ b s, p = pt b ∧ PoolAt w b s (newL A) ∧ w0.heap.size ≤ b ∧ ∀ g, s.ownBlock = some g → w0.heap.size ≤ g)
theorem pair_new {A : List Int} {w0 w1 w2 : World} {b : Nat} {s t : Value} (he : newE A = 0) (h1 : PoolAt w1 b s (newL A)) (hb : w0.heap.size ≤ b ∧ ∀ g, s.ownBlock = some g → w0.heap.size ≤ g) (h12 : Same w1 w2) (ht : Given refE w2 t (newL A)) (hn : ∀ ad, vaddr t = some ad → w1.heap.size ≤ ad.block) :
    Pair w2 b s t (newL A) ∧ ∀ x, Foot b s t x → w0.heap.size ≤ x ∨ w1.heap.size ≤ x := by
  refine ⟨⟨h1.same h12, ht, newL_ok he, fun ad had => ?_⟩, ?_⟩
  · have := hn ad had
    exact ⟨fun e => by have := h1.foot b (.inl rfl); omega, fun e => by have := h1.foot _ (.inr e); omega⟩
  · rintro x (hx | ⟨ad, had, rfl⟩)
    · rcases hx with rfl | hx
      · exact .inl hb.1
      · exact .inl (hb.2 x hx)
    · exact .inr (hn ad had)

theorem c4 (s1 s2 : Value) (A : List Int) (acts : List ActT) (w : World) (h1 : Arr intE w s1 A) (h2 : Arr actE w s2 acts) : Gives Try.prog 4 [s1, s2] w (.bool true) := by
  obtain ⟨a1, c1, rfl⟩ := h1.slice
  obtain ⟨a2, c2, rfl⟩ := h2.slice
  refine gives mix t4 rfl rfl (ε := [.slice a1 A.length c1, .slice a2 acts.length c2]) ⟨⟨_, _, _, rfl⟩, ⟨_, _, _, rfl⟩, trivial⟩ (den_splitLt (fun e => ?_) (fun e1 => den_splitLt (fun e => ?_) (fun e2 => ?_)))
  · exact den_call_bool (b := true) (fun w1 _ => c8 w1) rfl fun _ _ _ _ => den_leaf rfl
  · exact den_call_bool (b := true) (fun w1 _ => c8 w1) rfl fun _ _ _ _ => den_leaf rfl
  have e1' : (A.length : Int) ≤ 20 := e1
  have e2' : (acts.length : Int) ≤ 50 := e2
  refine den_callR (fun w1 l w2 => ∃ p, l = [p, .int .i64 (newE A)] ∧ NewR A w1 w2 p) (fun w1 k1 => ?_) (fun w1 l w2 k1 hf hR hs12 => ?_)
  · refine (c9 _ A w1 (h1.same k1.base) (by omega)).mono fun v w' ⟨p, hv, h3, h4⟩ => ?_
    have hp : Base.ptr.fits p := by
      rcases newE_or A with h | h
      · obtain ⟨b, s, rfl, _⟩ := h4 h; exact ⟨_, rfl⟩
      · rw [h3 (by rw [h]; decide)]; exact ⟨_, rfl⟩
    exact ⟨[p, .int .i64 (newE A)], ⟨hp, ⟨_, rfl⟩, trivial⟩, hv, p, rfl, h3, h4⟩
  obtain ⟨p, rfl, hN⟩ := hR
  have z1 : w.heap.size ≤ w1.heap.size := k1.base.size
  refine den_norm (by simp only [List.cons_append, List.nil_append]; rfl) ?_
  refine den_callR (fun w3 l w4 => ∃ t, l = [t, .int .i64 (newE A)] ∧ (newE A = 0 → Given refE w4 t (newL A) ∧ ∀ ad, vaddr t = some ad → w3.heap.size ≤ ad.block)) (fun w3 k3 => ?_) (fun w3 l w4 k3 hf hR hs34 => ?_)
  · refine (c14 _ A w3 (h1.same k3.base) (by omega)).mono fun v w' ⟨t', hv, h3, h4⟩ => ?_
    have ht : Base.slice.fits t' := by
      rcases newE_or A with h | h
      · obtain ⟨a', c', e'⟩ := (h4 h).1.1.slice; exact ⟨_, _, _, e'⟩
      · rw [h3 (by rw [h]; decide)]; exact ⟨_, _, _, rfl⟩
    exact ⟨[t', .int .i64 (newE A)], ⟨ht, ⟨_, rfl⟩, trivial⟩, hv, t', rfl, h4⟩
  obtain ⟨t, rfl, hT⟩ := hR
  have s23 := shown_same k3
  refine den_norm (by simp only [List.cons_append, List.nil_append]; rfl) (den_call_int (x := newE A) (fun w5 k5 => ?_) rfl fun w5 w6 k5 k6 => den_norm (by simp only [List.cons_append, List.nil_append]; rfl) (den_splitNot (fun e => ?_) (fun _ => ?_)))
  · exact c10 _ w5
  · simp [BE.den, IE.den, nth, vint] at e
  have s46 := (shown_same k5).trans k6
  rcases newE_or A with he | he
  · obtain ⟨b, s, rfl, hP, hb, hg⟩ := hN.2 he
    obtain ⟨hgt, hn⟩ := hT he
    obtain ⟨hp4, hfo4⟩ := pair_new he hP ⟨hb, hg⟩ (s23.trans hs34) hgt (fun ad had => by have := hn ad had; have := s23.size; omega)
    have hfo : ∀ x, Foot b s t x → w.heap.size ≤ x := fun x hx => by
      have := hfo4 x hx
      have := hs12.size
      omega
    have hp6 := hp4.same s46
    rw [he]
    refine den_splitNot (fun e => ?_) (fun _ => ?_)
    · simp [BE.den, IE.den, nth, vint, vnil, eqB_eq] at e
    refine den_loop (fun ls w' => ∃ (j : Nat) (t : Value) (L : List Bk), ls = [.int .i64 j, t] ∧ j ≤ acts.length ∧ Pair w' b s t L ∧ ∀ x, Foot b s t x → w.heap.size ≤ x) (fun ls _ => acts.length - (vint (nth ls 0)).toNat) (fun w7 k7 => ⟨0, t, newL A, rfl, Nat.zero_le _, hp6.same (shown_same k7), hfo⟩) ?_
    clear hp6 hp4 hfo4 hfo hgt hn hT hP
    rintro w7 l w8 k7 hf ⟨j, t', L, rfl, hj, hp, hfo⟩ hk hfa
    refine den_norm (by simp only [List.cons_append, List.nil_append]; rfl) (den_splitLt (fun h => ?_) (fun h => ?_))
    · have hlt : j < acts.length := by simpa [IE.den, nth, vint, vlen] using h
      have hx : acts[j]? = some acts[j] := by simp [hlt]
      generalize acts[j] = x at hx
      refine den_splitEq (fun _ => ?_) (fun hne => absurd rfl hne)
      refine den_idx2 (E := actE) (L := acts) x j (actE.enc x) (h2.same hk) rfl (by decide) rfl hx ⟨⟨_, rfl⟩, ⟨_, rfl⟩, ⟨_, rfl⟩, ⟨_, rfl⟩, trivial⟩ (whole _) (fun w h => h2.same h.base) (fun _ _ => by simp [BlkIn]) (fun w9 k9 => den_norm (by simp only [List.cons_append, List.nil_append, actE]; rfl) ?_)
      refine den_callM (fun _ => MP b s) (fun w10 l w11 => ∃ t2, l = [t2, .bool true] ∧ Pair w11 b s t2 (actL L x) ∧ ∀ y, Foot b s t2 y → Foot b s t' y ∨ w10.heap.size ≤ y) (fun w10 k10 y hy _ => ?_) (fun w10 k10 => ?_) (fun w10 l w11 k10 hf hR hk11 => ?_)
      · have := hfo y (.inl hy)
        exact ⟨fun hd => (by cases hd), fun hlt => absurd (show y < w.heap.size from hlt) (by omega), fun hin => (by simp [BlkIn] at hin), fun hx => (by cases hx)⟩
      · refine (c15 b s t' L x w10 (hp.same ((shown_same k9).trans (shown_same k10)))).mono (fun v w' ⟨t2, hv, hp2, hf2⟩ _ => ?_) (fun _ _ h => h)
        obtain ⟨a', c', e'⟩ := hp2.ref.1.slice
        exact ⟨[t2, .bool true], ⟨⟨_, _, _, e'⟩, ⟨_, rfl⟩, trivial⟩, hv, ⟨t2, rfl, hp2, hf2⟩, trivial⟩
      obtain ⟨t2, rfl, hp2, hf2⟩ := hR
      have z10 : w.heap.size ≤ w10.heap.size := k10.base.size
      have hfo2 : ∀ y, Foot b s t2 y → w.heap.size ≤ y := fun y hy => by
        rcases hf2 y hy with h | h
        · exact hfo y h
        · omega
      refine den_norm (by simp only [List.cons_append, List.nil_append]; rfl) (den_splitNot (fun e => by cases e) (fun _ => ?_))
      refine den_call_bool (b := true) (fun w12 k12 => ?_) rfl fun w12 w13 k12 k13 => den_norm (by simp only [List.cons_append, List.nil_append]; rfl) (den_splitNot (fun e => by cases e) (fun _ => ?_))
      · exact c16 b s t2 _ w12 (hp2.same (shown_same k12))
      refine den_ob64 (by simp only [IE.den, nth, vint]; omega) (den_leaf' fun w14 k14 => (if_pos rfl).mpr ⟨⟨j + 1, t2, actL L x, by simp [SV.den, denL, IE.den, BE.den, nth, vint, vbool, vaddr, addO, addr_add], by omega, hp2.same (((shown_same k12).trans k13).trans (shown_same k14)), hfo2⟩, ?_⟩)
      simp [SV.den, denL, IE.den, BE.den, nth, vint, vbool, vaddr, addO, addr_add]
      omega
    · exact den_call_bool (b := true) (fun w9 _ => c8 w9) rfl fun _ _ _ _ => den_leaf' fun w10 k10 => (if_neg (by decide)).mpr ⟨by simp [SV.den, denL, IE.den, BE.den, nth, vint, vbool, vaddr, addO, addr_add], k10.base⟩
  · obtain rfl := hN.1 (by rw [he]; decide)
    rw [he]
    refine den_splitNot (fun e => ?_) (fun _ => ?_)
    · simp [BE.den, IE.den, nth, vint, vnil, eqB_eq] at e
    refine den_loop (fun ls _ => ∃ (j : Nat) (t : Value), ls = [.int .i64 j, t]) (fun ls _ => 0) (fun w7 k7 => ⟨0, t, rfl⟩) ?_
    rintro w7 l w8 k7 hf ⟨j, t', rfl⟩ hk hfa
    refine den_norm (by simp only [List.cons_append, List.nil_append]; rfl) (den_splitLt (fun h => den_splitEq (fun e => ?_) (fun e => ?_)) (fun h => ?_))
    · have : (2 : Int) = 0 := e
      omega
    all_goals exact den_call_bool (b := true) (fun w9 _ => c8 w9) rfl fun _ _ _ _ => den_leaf' fun w10 k10 => (if_neg (by decide)).mpr ⟨by simp [SV.den, denL, IE.den, BE.den, nth, vint, vbool, vaddr, addO, addr_add], k10.base⟩
end Go.Proofs.Ytdinjabnfjoojaa
