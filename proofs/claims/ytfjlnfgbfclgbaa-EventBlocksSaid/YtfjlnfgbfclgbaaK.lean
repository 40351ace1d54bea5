/- The specification's other functions. No conditions beyond those that each theorem names. -/
import Derived.Test.YtfjlnfgbfclgbaaJ
set_option maxRecDepth 100000
set_option maxHeartbeats 4000000
set_option linter.unusedVariables false
set_option linter.unusedSimpArgs false
namespace Go.Proofs.Ytfjlnfgbfclgbaa
open Go.Sx

abbrev refL (lim cfg : Int) (s1 s2 : Value) (Bl : Nat → Bool) (Pg : Nat → Int) : List Value := refC lim cfg s1 s2 Bl Pg
/-- the blocked types of both sides -/
structure BOk (B : Int → Option Int) (Bl : Nat → Bool) (Pg : Nat → Int) : Prop where
  lo : ∀ t : Nat, t < 8 → B t = if Bl t then some (Pg t) else none
  hi : ∀ t : Int, t < 0 ∨ 8 ≤ t → B t = none
def readB (B : Int → Option Int) (page : Int) : Int → Option Int := fun t => match B t with | some p => if p = page then none else some p | none => none
theorem BOk.read {B : Int → Option Int} {Bl Bl' : Nat → Bool} {Pg : Nat → Int} {page : Int} (h : BOk B Bl Pg) (hb : ∀ t, t < 8 → Bl' t = (Bl t && !decide (Pg t = page))) : BOk (readB B page) Bl' Pg := by
  refine ⟨fun t ht => ?_, fun t ht => by unfold readB; rw [h.hi t ht]⟩
  unfold readB
  rw [h.lo t ht, hb t ht]
  cases Bl t with
  | true =>
    by_cases hp : Pg t = page
    · simp [hp]
    · simp [hp]
  | false => simp
theorem BOk.upd {B : Int → Option Int} {Bl : Nat → Bool} {Pg : Nat → Int} (h : BOk B Bl Pg) (k : Nat) (hk : k < 8) (t p : Int) (ht : t = k) : BOk (upd B t p) (fun t => if t = k then true else Bl t) (fun t => if t = k then p else Pg t) := by
  subst ht
  refine ⟨fun t ht => ?_, fun t ht => ?_⟩
  · unfold Sx.upd
    by_cases e : t = k
    · subst e; simp
    · have : ¬ ((t : Int) = (k : Int)) := by omega
      simp [e, this, h.lo t ht]
  · unfold Sx.upd
    rw [if_neg (by omega), h.hi t ht]
theorem given_tail {w : World} {ra : Option Addr} {n rc : Nat} {r0 : Int} {R' : List Int} (h : Given hE w (.slice ra n rc) (r0 :: R')) :
    ∃ sa1 sc1, sliced ra 1 n rc 1 = .slice sa1 R'.length sc1 ∧ Given hE w (.slice sa1 R'.length sc1) R' ∧ ∀ ad2, sa1 = some ad2 → ∃ ad3, ra = some ad3 ∧ ad3.block = ad2.block := by
  have hn : n = (r0 :: R').length := by obtain ⟨a', c', e⟩ := h.1.slice; cases e; rfl
  subst hn
  obtain ⟨ad, had, _⟩ := h.1.elem (j := 0) (x := r0) rfl (by decide)
  have hadv : ra = some ad := had
  have q : (r0 :: R').length = R'.length + 1 := rfl
  have hrc : (r0 :: R').length ≤ rc := h.2.2.1
  have rt : Arr hE w (sliced ra 1 (r0 :: R').length rc 1) R' := by
    have := Arr.sub (E := hE) (l := 1) (k := (r0 :: R').length) (m := rc) h.1 (by omega) (Nat.le_refl _) (by omega)
    rw [List.take_length] at this
    exact this
  have hsl : ∃ sa1 sc1, sliced ra 1 (r0 :: R').length rc 1 = .slice sa1 R'.length sc1 ∧ (∀ ad2, sa1 = some ad2 → ∃ ad3, ra = some ad3 ∧ ad3.block = ad2.block) := by
    refine ⟨_, _, by unfold sliced; rw [show R'.length = (r0 :: R').length - 1 by simp], fun ad2 h2 => ?_⟩
    split at h2
    · exact ⟨ad2, h2, rfl⟩
    · rw [hadv] at h2
      cases h2
      exact ⟨ad, hadv, (add_block ad _).symm⟩
  obtain ⟨sa1, sc1, hs1, hs1b⟩ := hsl
  refine ⟨sa1, sc1, hs1, ⟨hs1 ▸ rt, fun n' c' ee => ?_, ?_, fun ad2 h2 => ?_⟩, hs1b⟩
  · unfold sliced at hs1
    rw [hadv] at hs1
    simp only [Option.map_some] at hs1
    rw [ee] at hs1
    split at hs1 <;> cases hs1
  · have e5 : sc1 = rc - 1 := by unfold sliced at hs1; injection hs1 with _ _ e6; exact e6.symm
    show R'.length ≤ sc1
    omega
  · obtain ⟨ad3, h3, h4⟩ := hs1b ad2 h2
    rw [← h4]
    exact h.2.2.2 ad3 h3

theorem c52 (lim cfg : Int) (s1 s2 : Value) (Bl : Nat → Bool) (Pg : Nat → Int) (page : Int) (w : World) (h1 : ∃ a n c, s1 = .slice a n c) (h2 : ∃ a n c, s2 = .slice a n c) :
    GivesR Try.prog 52 [refV lim cfg s1 s2 Bl Pg, .int .u8 page] w (fun v w' => ∃ Bl', v = refV lim cfg s1 s2 Bl' Pg ∧ ∀ t, t < 8 → Bl' t = (Bl t && !decide (Pg t = page))) := by
  obtain ⟨a, n, c, rfl⟩ := h1
  obtain ⟨a2, n2, c2, rfl⟩ := h2
  refine givesR mix t52 rfl rfl (ε := [.int .i64 lim, .int .u32 cfg, .slice a n c, .slice a2 n2 c2, .bool (Bl 0), .bool (Bl 1), .bool (Bl 2), .bool (Bl 3), .bool (Bl 4), .bool (Bl 5), .bool (Bl 6), .bool (Bl 7), .int .u8 (Pg 0), .int .u8 (Pg 1), .int .u8 (Pg 2), .int .u8 (Pg 3), .int .u8 (Pg 4), .int .u8 (Pg 5), .int .u8 (Pg 6), .int .u8 (Pg 7), .int .u8 page]) ⟨⟨_, rfl⟩, ⟨_, rfl⟩, ⟨_, _, _, rfl⟩, ⟨_, _, _, rfl⟩, ⟨_, rfl⟩, ⟨_, rfl⟩, ⟨_, rfl⟩, ⟨_, rfl⟩, ⟨_, rfl⟩, ⟨_, rfl⟩, ⟨_, rfl⟩, ⟨_, rfl⟩, ⟨_, rfl⟩, ⟨_, rfl⟩, ⟨_, rfl⟩, ⟨_, rfl⟩, ⟨_, rfl⟩, ⟨_, rfl⟩, ⟨_, rfl⟩, ⟨_, rfl⟩, ⟨_, rfl⟩, trivial⟩ (den_blk fun b1 k1 _ _ => den_norm (by simp only [List.cons_append, List.nil_append]; rfl) (den_blk fun b2 k2 _ _ => den_norm (by simp only [List.cons_append, List.nil_append]; rfl) ?_))
  refine den_loop (fun ls w' => ∃ (j : Nat) (Bl' : Nat → Bool), j ≤ 8 ∧ ls = .int .i64 (j : Int) :: refC lim cfg (.slice a n c) (.slice a2 n2 c2) Bl' Pg ∧ ∀ t, t < 8 → Bl' t = (Bl t && !(decide (t < j) && decide (Pg t = page)))) (fun ls _ => 8 - (vint (nth ls 0)).toNat) (fun w1 h1 => ⟨0, Bl, by omega, rfl, fun t ht => by simp⟩) ?_
  rintro w1 l w2 h1 hfl ⟨j, Bl', hj, rfl, hB⟩ hk2 hfa2
  refine den_norm (by simp only [List.cons_append, List.nil_append, refC]; rfl) (den_splitLt (fun hlt => ?_) (fun hge => ?_))
  rotate_left
  · have hge' : (8 : Int) ≤ (j : Int) := hge
    refine den_leaf' fun w3 h3 => (if_neg (by decide)).mpr ⟨_, rfl, ⟨Bl', rfl, fun t ht => ?_⟩, h3.base⟩
    have : t < j := by omega
    rw [hB t ht]
    simp [this]
  have hlt' : (j : Int) < 8 := hlt
  have stepT : ∀ k, k = j → Pg k = page → ∀ t, t < 8 → (fun t => if t = k then false else Bl' t) t = (Bl t && !(decide (t < j + 1) && decide (Pg t = page))) := fun k hk hp t ht => by
    subst hk
    by_cases e : t = k
    · subst e; simp [hp]
    · have e1 : (t < k + 1) = (t < k) := propext (by omega)
      simp only [if_neg e, hB t ht, e1]
  have stepF : ∀ k, k = j → Pg k ≠ page → ∀ t, t < 8 → Bl' t = (Bl t && !(decide (t < j + 1) && decide (Pg t = page))) := fun k hk hp t ht => by
    subst hk
    by_cases e : t = k
    · subst e; rw [hB t ht]; simp [hp]
    · have e1 : (t < k + 1) = (t < k) := propext (by omega)
      simp only [hB t ht, e1]
  refine den_ob (by simp [BE.den, IE.den, nth, vint]) (den_ob (by simp [BE.den, IE.den, nth, vint]; omega) ?_)
  refine den_splitEq (fun hk => ?_) (fun hk0 => ?_)
  · have hk' : (j : Int) = 0 := hk
    have hkj : 0 = j := by omega
    refine den_splitEq (fun hp => ?_) (fun hp => ?_)
    · have hp' : Pg 0 = page := hp
      refine den_ob (by simp [BE.den, IE.den, nth, vint]) (den_ob (by simp [BE.den, IE.den, nth, vint]; omega) (den_ob64 (by simp only [IE.den, nth, vint]; omega) (den_leaf' fun w3 h3 => (if_pos rfl).mpr ⟨⟨j + 1, _, by omega, ?_, stepT 0 hkj hp'⟩, ?_⟩)))
      · simp [SV.den, denL, IE.den, BE.den, nth, vint, vbool, vaddr, addO, addr_add, refC]
      · simp only [denL, SV.den, IE.den, nth, vint]; omega
    · have hp' : Pg 0 ≠ page := hp
      refine den_ob64 (by simp only [IE.den, nth, vint]; omega) (den_leaf' fun w3 h3 => (if_pos rfl).mpr ⟨⟨j + 1, _, by omega, ?_, stepF 0 hkj hp'⟩, ?_⟩)
      · simp [SV.den, denL, IE.den, BE.den, nth, vint, vbool, vaddr, addO, addr_add, refC]
      · simp only [denL, SV.den, IE.den, nth, vint]; omega
  refine den_splitEq (fun hk => ?_) (fun hk1 => ?_)
  · have hk' : (j : Int) = 1 := hk
    have hkj : 1 = j := by omega
    refine den_splitEq (fun hp => ?_) (fun hp => ?_)
    · have hp' : Pg 1 = page := hp
      refine den_ob (by simp [BE.den, IE.den, nth, vint]) (den_ob (by simp [BE.den, IE.den, nth, vint]; omega) (den_ob64 (by simp only [IE.den, nth, vint]; omega) (den_leaf' fun w3 h3 => (if_pos rfl).mpr ⟨⟨j + 1, _, by omega, ?_, stepT 1 hkj hp'⟩, ?_⟩)))
      · simp [SV.den, denL, IE.den, BE.den, nth, vint, vbool, vaddr, addO, addr_add, refC]
      · simp only [denL, SV.den, IE.den, nth, vint]; omega
    · have hp' : Pg 1 ≠ page := hp
      refine den_ob64 (by simp only [IE.den, nth, vint]; omega) (den_leaf' fun w3 h3 => (if_pos rfl).mpr ⟨⟨j + 1, _, by omega, ?_, stepF 1 hkj hp'⟩, ?_⟩)
      · simp [SV.den, denL, IE.den, BE.den, nth, vint, vbool, vaddr, addO, addr_add, refC]
      · simp only [denL, SV.den, IE.den, nth, vint]; omega
  refine den_splitEq (fun hk => ?_) (fun hk2 => ?_)
  · have hk' : (j : Int) = 2 := hk
    have hkj : 2 = j := by omega
    refine den_splitEq (fun hp => ?_) (fun hp => ?_)
    · have hp' : Pg 2 = page := hp
      refine den_ob (by simp [BE.den, IE.den, nth, vint]) (den_ob (by simp [BE.den, IE.den, nth, vint]; omega) (den_ob64 (by simp only [IE.den, nth, vint]; omega) (den_leaf' fun w3 h3 => (if_pos rfl).mpr ⟨⟨j + 1, _, by omega, ?_, stepT 2 hkj hp'⟩, ?_⟩)))
      · simp [SV.den, denL, IE.den, BE.den, nth, vint, vbool, vaddr, addO, addr_add, refC]
      · simp only [denL, SV.den, IE.den, nth, vint]; omega
    · have hp' : Pg 2 ≠ page := hp
      refine den_ob64 (by simp only [IE.den, nth, vint]; omega) (den_leaf' fun w3 h3 => (if_pos rfl).mpr ⟨⟨j + 1, _, by omega, ?_, stepF 2 hkj hp'⟩, ?_⟩)
      · simp [SV.den, denL, IE.den, BE.den, nth, vint, vbool, vaddr, addO, addr_add, refC]
      · simp only [denL, SV.den, IE.den, nth, vint]; omega
  refine den_splitEq (fun hk => ?_) (fun hk3 => ?_)
  · have hk' : (j : Int) = 3 := hk
    have hkj : 3 = j := by omega
    refine den_splitEq (fun hp => ?_) (fun hp => ?_)
    · have hp' : Pg 3 = page := hp
      refine den_ob (by simp [BE.den, IE.den, nth, vint]) (den_ob (by simp [BE.den, IE.den, nth, vint]; omega) (den_ob64 (by simp only [IE.den, nth, vint]; omega) (den_leaf' fun w3 h3 => (if_pos rfl).mpr ⟨⟨j + 1, _, by omega, ?_, stepT 3 hkj hp'⟩, ?_⟩)))
      · simp [SV.den, denL, IE.den, BE.den, nth, vint, vbool, vaddr, addO, addr_add, refC]
      · simp only [denL, SV.den, IE.den, nth, vint]; omega
    · have hp' : Pg 3 ≠ page := hp
      refine den_ob64 (by simp only [IE.den, nth, vint]; omega) (den_leaf' fun w3 h3 => (if_pos rfl).mpr ⟨⟨j + 1, _, by omega, ?_, stepF 3 hkj hp'⟩, ?_⟩)
      · simp [SV.den, denL, IE.den, BE.den, nth, vint, vbool, vaddr, addO, addr_add, refC]
      · simp only [denL, SV.den, IE.den, nth, vint]; omega
  refine den_splitEq (fun hk => ?_) (fun hk4 => ?_)
  · have hk' : (j : Int) = 4 := hk
    have hkj : 4 = j := by omega
    refine den_splitEq (fun hp => ?_) (fun hp => ?_)
    · have hp' : Pg 4 = page := hp
      refine den_ob (by simp [BE.den, IE.den, nth, vint]) (den_ob (by simp [BE.den, IE.den, nth, vint]; omega) (den_ob64 (by simp only [IE.den, nth, vint]; omega) (den_leaf' fun w3 h3 => (if_pos rfl).mpr ⟨⟨j + 1, _, by omega, ?_, stepT 4 hkj hp'⟩, ?_⟩)))
      · simp [SV.den, denL, IE.den, BE.den, nth, vint, vbool, vaddr, addO, addr_add, refC]
      · simp only [denL, SV.den, IE.den, nth, vint]; omega
    · have hp' : Pg 4 ≠ page := hp
      refine den_ob64 (by simp only [IE.den, nth, vint]; omega) (den_leaf' fun w3 h3 => (if_pos rfl).mpr ⟨⟨j + 1, _, by omega, ?_, stepF 4 hkj hp'⟩, ?_⟩)
      · simp [SV.den, denL, IE.den, BE.den, nth, vint, vbool, vaddr, addO, addr_add, refC]
      · simp only [denL, SV.den, IE.den, nth, vint]; omega
  refine den_splitEq (fun hk => ?_) (fun hk5 => ?_)
  · have hk' : (j : Int) = 5 := hk
    have hkj : 5 = j := by omega
    refine den_splitEq (fun hp => ?_) (fun hp => ?_)
    · have hp' : Pg 5 = page := hp
      refine den_ob (by simp [BE.den, IE.den, nth, vint]) (den_ob (by simp [BE.den, IE.den, nth, vint]; omega) (den_ob64 (by simp only [IE.den, nth, vint]; omega) (den_leaf' fun w3 h3 => (if_pos rfl).mpr ⟨⟨j + 1, _, by omega, ?_, stepT 5 hkj hp'⟩, ?_⟩)))
      · simp [SV.den, denL, IE.den, BE.den, nth, vint, vbool, vaddr, addO, addr_add, refC]
      · simp only [denL, SV.den, IE.den, nth, vint]; omega
    · have hp' : Pg 5 ≠ page := hp
      refine den_ob64 (by simp only [IE.den, nth, vint]; omega) (den_leaf' fun w3 h3 => (if_pos rfl).mpr ⟨⟨j + 1, _, by omega, ?_, stepF 5 hkj hp'⟩, ?_⟩)
      · simp [SV.den, denL, IE.den, BE.den, nth, vint, vbool, vaddr, addO, addr_add, refC]
      · simp only [denL, SV.den, IE.den, nth, vint]; omega
  refine den_splitEq (fun hk => ?_) (fun hk6 => ?_)
  · have hk' : (j : Int) = 6 := hk
    have hkj : 6 = j := by omega
    refine den_splitEq (fun hp => ?_) (fun hp => ?_)
    · have hp' : Pg 6 = page := hp
      refine den_ob (by simp [BE.den, IE.den, nth, vint]) (den_ob (by simp [BE.den, IE.den, nth, vint]; omega) (den_ob64 (by simp only [IE.den, nth, vint]; omega) (den_leaf' fun w3 h3 => (if_pos rfl).mpr ⟨⟨j + 1, _, by omega, ?_, stepT 6 hkj hp'⟩, ?_⟩)))
      · simp [SV.den, denL, IE.den, BE.den, nth, vint, vbool, vaddr, addO, addr_add, refC]
      · simp only [denL, SV.den, IE.den, nth, vint]; omega
    · have hp' : Pg 6 ≠ page := hp
      refine den_ob64 (by simp only [IE.den, nth, vint]; omega) (den_leaf' fun w3 h3 => (if_pos rfl).mpr ⟨⟨j + 1, _, by omega, ?_, stepF 6 hkj hp'⟩, ?_⟩)
      · simp [SV.den, denL, IE.den, BE.den, nth, vint, vbool, vaddr, addO, addr_add, refC]
      · simp only [denL, SV.den, IE.den, nth, vint]; omega
  refine den_splitEq (fun hk => ?_) (fun hk7 => ?_)
  · have hk' : (j : Int) = 7 := hk
    have hkj : 7 = j := by omega
    refine den_splitEq (fun hp => ?_) (fun hp => ?_)
    · have hp' : Pg 7 = page := hp
      refine den_ob (by simp [BE.den, IE.den, nth, vint]) (den_ob (by simp [BE.den, IE.den, nth, vint]; omega) (den_ob64 (by simp only [IE.den, nth, vint]; omega) (den_leaf' fun w3 h3 => (if_pos rfl).mpr ⟨⟨j + 1, _, by omega, ?_, stepT 7 hkj hp'⟩, ?_⟩)))
      · simp [SV.den, denL, IE.den, BE.den, nth, vint, vbool, vaddr, addO, addr_add, refC]
      · simp only [denL, SV.den, IE.den, nth, vint]; omega
    · have hp' : Pg 7 ≠ page := hp
      refine den_ob64 (by simp only [IE.den, nth, vint]; omega) (den_leaf' fun w3 h3 => (if_pos rfl).mpr ⟨⟨j + 1, _, by omega, ?_, stepF 7 hkj hp'⟩, ?_⟩)
      · simp [SV.den, denL, IE.den, BE.den, nth, vint, vbool, vaddr, addO, addr_add, refC]
      · simp only [denL, SV.den, IE.den, nth, vint]; omega
  exfalso
  have q0 : (j : Int) ≠ 0 := hk0
  have q1 : (j : Int) ≠ 1 := hk1
  have q2 : (j : Int) ≠ 2 := hk2
  have q3 : (j : Int) ≠ 3 := hk3
  have q4 : (j : Int) ≠ 4 := hk4
  have q5 : (j : Int) ≠ 5 := hk5
  have q6 : (j : Int) ≠ 6 := hk6
  have q7 : (j : Int) ≠ 7 := hk7
  omega

def cfgL (L : List Ntc) (c : Int) : List Ntc := L.filter fun n => enI n.t n.i c
theorem c53 (lim cfg : Int) (s1 s2 : Value) (L : List Ntc) (Bl : Nat → Bool) (Pg : Nat → Int) (c' : Int) (hc : 0 ≤ c' ∧ c' < 4294967296) (w : World) (h1 : ∃ a n c, s1 = .slice a n c) (h2 : Given ntcE w s2 L) (hok : ∀ n ∈ L, n.Ok) (hm : L.length ≤ 60000) :
    GivesR Try.prog 53 [refV lim cfg s1 s2 Bl Pg, .int .u32 c'] w (fun v w' => ∃ s2', v = refV lim c' s1 s2' Bl Pg ∧ Given ntcE w' s2' (cfgL L c') ∧ Fr w s2 s2') := by
  obtain ⟨a, n, c, rfl⟩ := h1
  obtain ⟨a2, c2, rfl⟩ := h2.1.slice
  refine givesR mix t53 rfl rfl (ε := [.int .i64 lim, .int .u32 cfg, .slice a n c, .slice a2 L.length c2, .bool (Bl 0), .bool (Bl 1), .bool (Bl 2), .bool (Bl 3), .bool (Bl 4), .bool (Bl 5), .bool (Bl 6), .bool (Bl 7), .int .u8 (Pg 0), .int .u8 (Pg 1), .int .u8 (Pg 2), .int .u8 (Pg 3), .int .u8 (Pg 4), .int .u8 (Pg 5), .int .u8 (Pg 6), .int .u8 (Pg 7), .int .u32 c']) ⟨⟨_, rfl⟩, ⟨_, rfl⟩, ⟨_, _, _, rfl⟩, ⟨_, _, _, rfl⟩, ⟨_, rfl⟩, ⟨_, rfl⟩, ⟨_, rfl⟩, ⟨_, rfl⟩, ⟨_, rfl⟩, ⟨_, rfl⟩, ⟨_, rfl⟩, ⟨_, rfl⟩, ⟨_, rfl⟩, ⟨_, rfl⟩, ⟨_, rfl⟩, ⟨_, rfl⟩, ⟨_, rfl⟩, ⟨_, rfl⟩, ⟨_, rfl⟩, ⟨_, rfl⟩, ⟨_, rfl⟩, trivial⟩ (den_blk fun b1 k1 _ _ => den_norm (by simp only [List.cons_append, List.nil_append]; rfl) (den_blk fun b2 k2 _ _ => den_norm (by simp only [List.cons_append, List.nil_append]; rfl) ?_))
  have z1 : w.heap.size ≤ b1 := k1
  have z2 : w.heap.size ≤ b2 := k2
  refine den_loop (fun ls w' => ∃ (j : Nat) (out : Value), j ≤ L.length ∧ ls = [out, .int .i64 (j : Int)] ∧ Mine ntcE 23 w' out (cfgL (L.take j) c') ∧ (∀ g, out.ownBlock = some g → w.heap.size ≤ g ∧ g ≠ b1 ∧ g ≠ b2)) (fun ls _ => L.length - (vint (nth ls 1)).toNat) (fun w1 h1 => ⟨0, _, by omega, rfl, Mine.nil, fun g hg => by cases hg⟩) ?_
  rintro w1 l w2 h1 hfl ⟨j, out, hj, rfl, hO, hOb⟩ hk2 hfa2
  obtain ⟨oa, oc, rfl⟩ := hO.slice
  have hlen : (cfgL (L.take j) c').length ≤ j := Nat.le_trans (List.length_filter_le _ _) (by rw [List.length_take]; omega)
  have zW : w.heap.size ≤ w2.heap.size := hk2.size
  have hA := h2.same hk2
  have f1 : b1 < w2.heap.size := (by obtain ⟨b', e1, l1⟩ := hfa2.2.1.lt; cases e1; exact l1)
  have f2 : b2 < w2.heap.size := (by obtain ⟨b', e1, l1⟩ := hfa2.1.lt; cases e1; exact l1)
  refine den_norm (by simp only [List.cons_append, List.nil_append]; rfl) (den_splitLt (fun hlt => ?_) (fun hge => ?_))
  rotate_left
  · have hge' : (L.length : Int) ≤ (j : Int) := by simpa [IE.den, nth, vint, vlen] using hge
    have e1 : L.take j = L := List.take_of_length_le (by omega)
    refine den_leaf' fun w3 h3 => (if_neg (by decide)).mpr ⟨_, rfl, ⟨_, rfl, ?_⟩, h3.base⟩
    rw [e1] at hO hOb
    rw [e1]
    exact ⟨(hO.kept h3.kept fun g hg hx => by have := hOb g hg; simp [BlkIn, nth, blkOf, vaddr] at hx; omega).given, Fr.new fun ad had => (hOb _ (hO.own had)).1⟩
  have hlt' : j < L.length := by simpa [IE.den, nth, vint, vlen] using hlt
  have hx : L[j]? = some (L[j]'hlt') := by simp
  generalize L[j]'hlt' = x at hx
  have hxo := hok x (List.mem_of_getElem? hx)
  have e2 : cfgL (L.take (j + 1)) c' = cfgL (L.take j) c' ++ (if enI x.t x.i c' then [x] else []) := by
    unfold cfgL
    rw [List.take_add_one, hx, List.filter_append]
    congr 1
    simp only [Option.toList_some, List.filter_cons, List.filter_nil]
  refine den_idx2 (E := ntcE) (L := L) x j [.int .u8 x.t, .int .u8 x.i, .int .u8 x.p] hA.1 rfl (by decide) rfl hx ⟨⟨_, rfl⟩, ⟨_, rfl⟩, ⟨_, rfl⟩, trivial⟩ (whole _) (fun w3 h3 => (hA.same (shown_same h3)).1) (fun ad had hin => by simp [BlkIn, nth, blkOf, vaddr] at hin) (fun w3 h3 => den_norm (by simp only [List.cons_append, List.nil_append]; rfl) ?_)
  have hA3 := hA.same (shown_same h3)
  have hO3 := hO.same (shown_same h3)
  have z3 : w2.heap.size ≤ w3.heap.size := h3.kept.size
  refine den_call_bool (b := enI x.t x.i c') (fun w4 h4 => c15 x hxo c' hc w4) rfl (fun w4 w5 h4 h5 => den_norm (by simp only [List.cons_append, List.nil_append]; rfl) (den_split (fun he => ?_) (fun he => ?_)))
  · have he' : enI x.t x.i c' = true := he
    have hA5 := (hA3.same (shown_same h4)).same h5
    have hO5 := (hO3.same (shown_same h4)).same h5
    have z4 : w3.heap.size ≤ w4.heap.size := h4.kept.size
    have z5 : w4.heap.size ≤ w5.heap.size := h5.size
    refine den_ob (by simp [BE.den, IE.den, nth, vint]) (den_ob (by simp [BE.den, IE.den, nth, vint, vlen]; omega) ?_)
    obtain ⟨ad0, had0, _⟩ := hA5.1.elem hx (by decide)
    intro w6 h6
    have hA6 := hA5.same (shown_same h6)
    obtain ⟨ad, had, hcell⟩ := hA6.1.elem hx (by decide)
    have z6 : w5.heap.size ≤ w6.heap.size := h6.kept.size
    refine den_load [.int .u8 x.t, .int .u8 x.i, .int .u8 x.p] (ad.add (j * 3)) ⟨⟨_, rfl⟩, ⟨_, rfl⟩, ⟨_, rfl⟩, trivial⟩ (by have had' : a2 = some ad := had; simp [SV.den, IE.den, nth, vint, vaddr, had', addO]; rfl) (fun hX => ?_) (fun m v hv => hcell m v hv) (den_norm (by simp only [List.cons_append, List.nil_append]; rfl) ?_)
    · rw [add_block] at hX
      simp [BlkIn, nth, blkOf, vaddr] at hX
    refine den_blk fun b7 k7 _ _ => den_norm (by simp only [List.cons_append, List.nil_append]; rfl) ?_
    have z7 : w6.heap.size ≤ b7 := k7
    have hO6 := hO5.same (shown_same h6)
    refine den_push (E := ntcE) (T := 23) rfl u57 i23 z23 s23 rfl (by decide) by23 ntc_one (.slice oa (cfgL (L.take j) c').length oc) (cfgL (L.take j) c') x rfl rfl rfl (by omega) (fun g hg _ => .inl (hOb g hg).1) (by simp [keys]) (fun wa ha => hO6.same (shown_same ha)) ?_ (fun hd => by cases hd) (fun _ => rfl) (fun wa v' wb ha hv' kab hfr hap => den_norm (by simp only [List.cons_append, List.nil_append]; rfl) ?_)
    · intro g hg _ hin2
      have q1 := hO6.lt hg
      have q2 := hOb g hg
      simp [BlkIn, nth, blkOf, vaddr] at hin2
      omega
    have za : w6.heap.size ≤ wa.heap.size := ha.kept.size
    have la : b7 < wa.heap.size := ha.lt (i := 32) (by simp [keys]) rfl
    have hOb' : ∀ g, v'.ownBlock = some g → w.heap.size ≤ g ∧ g ≠ b1 ∧ g ≠ b2 ∧ g ≠ b7 := fun g hg => by
      rcases hfr with ⟨q1, _⟩ | ⟨b', q1, hb', _⟩
      · rw [q1] at hg
        have := hOb g hg
        have := hO6.lt hg
        omega
      · rw [q1] at hg
        have q4 : b' = g := Option.some.inj hg
        omega
    refine den_ob64 (by simp only [IE.den, nth, vint]; omega) (den_leaf' fun w8 h8 => (if_pos rfl).mpr ⟨⟨j + 1, v', by omega, by simp [SV.den, denL, IE.den, BE.den, nth, vint, vbool, vaddr, addO, addr_add], ?_, fun g hg => ⟨(hOb' g hg).1, (hOb' g hg).2.1, (hOb' g hg).2.2.1⟩⟩, ?_⟩)
    · rw [e2, if_pos he']
      exact hv'.same (shown_same h8)
    · simp only [denL, SV.den, IE.den, nth, vint]; omega
  · have he' : enI x.t x.i c' = false := he
    refine den_ob64 (by simp only [IE.den, nth, vint]; omega) (den_leaf' fun w8 h8 => (if_pos rfl).mpr ⟨⟨j + 1, .slice oa (cfgL (L.take j) c').length oc, by omega, by simp [SV.den, denL, IE.den, BE.den, nth, vint, vbool, vaddr, addO, addr_add], ?_, hOb⟩, ?_⟩)
    · rw [e2, if_neg (by rw [he']; decide), List.append_nil]
      exact ((hO3.same (shown_same h4)).same h5).same (shown_same h8)
    · simp only [denL, SV.den, IE.den, nth, vint]; omega
end Go.Proofs.Ytfjlnfgbfclgbaa
