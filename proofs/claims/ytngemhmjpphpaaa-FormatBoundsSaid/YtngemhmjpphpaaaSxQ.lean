/- Part Q of a symbolic run of Go code by computation: its states, conditions and the proof that a condition that holds says what the function returns. No conditions of its own. -/
import Derived.Test.YtngemhmjpphpaaaSxP
set_option linter.unusedVariables false
set_option linter.unusedSimpArgs false
namespace Go.Sx
open Go.RowKit

section
variable {G : Ctx} {D : List Deferred}

theorem wfN_keys {n : Nat} : ∀ {fs : Facts}, wfF n fs = true → wfN n (keys fs) = true
  | [], _ => rfl
  | p :: fs, hh => by
    simp only [wfF, Bool.and_eq_true] at hh
    simp only [keys, wfN, Bool.and_eq_true]
    exact ⟨hh.1.1, wfN_keys hh.2⟩

/-- the top of a round -/
theorem Ok.loopTop {s : St} {ε : List Value} {wx ws : World} {X : Nat → Prop} {a : Act} {w : World} (hok : Ok G D s ε wx ws X a w) (hw : wfS s = true)
    {W : List Nat} {sl : List (Nat × Base)} {tk : List Nat} {r : List Base × Facts} (hr : r = anew s.ks s.heap (s.ks.length + (sl.map (·.2)).length) tk)
    {heap2 : Facts} {ε2 : List Value} {vs2 : List SV} {l : List Value} (hl : l = denL ε2 (vs2 ++ contents heap2 tk)) {a' : Act} {w' : World}
    (hf : Fits (sl.map (·.2) ++ r.1) l) (hd : a'.defers = D) (hsz : a'.tmps.size = s.tmps.length)
    (ht : ∀ i v, getL s.tmps i = some v → (∀ b, (i, b) ∉ sl) → getL (putAll (forget s.tmps W) s.ks.length sl) i = some v → a'.tmps[i]? = some (v.den ε))
    (hs : ∀ (k i : Nat) (b : Base), sl[k]? = some (i, b) → ∃ v, vs2[k]? = some v ∧ a'.tmps[i]? = some (v.den ε2))
    (hb : Kept G.M G.W0 w')
    (hk : ∀ i c, findH s.heap i = some c → i ∉ tk → HasBlk w' (nth ε i) (denL ε c))
    (hc : ∀ i ∈ tk, ∃ c c2, findH s.heap i = some c ∧ findH heap2 i = some c2 ∧ c.length = c2.length ∧ HasBlk w' (nth ε i) (denL ε2 c2)) :
    Ok G D { s with tmps := putAll (forget s.tmps W) s.ks.length sl, heap := setAll s.heap r.2, ks := s.ks ++ (sl.map (·.2) ++ r.1), t0 := keys s.heap } (ε ++ l) w' w' (BlkIn (ε ++ l) (keys s.heap)) a' w' := by
  obtain ⟨h1, h2, h3, h4⟩ := wfS_parts hw
  have hlen : ε.length = s.ks.length := hok.ks.length
  rw [← hlen] at h1 h2 h3 h4
  have hvl : (denL ε2 vs2).length = (sl.map (·.2)).length := by
    have h5 := hf.length
    rw [hl, denL_app] at hf h5
    -- the number of the slots
    have : ∀ k, k < sl.length → k < vs2.length := fun k hk => by
      obtain ⟨v, hv, _⟩ := hs k (sl[k]'hk).1 (sl[k]'hk).2 (by simp [hk])
      exact (List.getElem?_eq_some_iff.1 hv).1
    have hle : sl.length ≤ vs2.length := by
      rcases Nat.eq_zero_or_pos sl.length with h0 | h0
      · omega
      · have := this (sl.length - 1) (by omega); omega
    have hr1 : r.1.length = (contents heap2 tk).length := by
      rw [hr, anew_bases, sbases_length]
      clear hr hf h5 hs ht hk hl
      induction tk with
      | nil => rfl
      | cons i tk ih =>
        obtain ⟨c, c2, e1, e2, e3, _⟩ := hc i (by simp)
        simp only [contents, e1, e2, List.length_append, e3]
        rw [ih (fun j hj => hc j (by simp [hj]))]
    simp only [List.length_append, denL_length] at h5 ⊢
    omega
  have hn : ∀ i ∈ keys s.heap, nth (ε ++ l) i = nth ε i := fun i hi => nth_append _ _ _ (wfF_keys h2 i hi)
  have hfs : FactsAt (ε ++ l) w' r.2 := by
    have hf' := hf
    rw [hl, denL_app] at hf'
    have hf2 := (hf'.split hvl.symm).2
    have hP : (ε ++ denL ε2 vs2).length = s.ks.length + (sl.map (·.2)).length := by rw [List.length_append, hlen, hvl]
    rw [hr, ← hP] at hf2 ⊢
    refine anew_facts s.ks s.heap heap2 ε2 w' tk (ε ++ denL ε2 vs2) (ε ++ l) [] (by rw [hl, denL_app]; simp) (fun i hi => ?_) hf2
    obtain ⟨c, c2, e1, e2, e3, e4⟩ := hc i hi
    exact ⟨c, c2, e1, e2, e3, by rw [hn i (findH_mem e1)]; exact e4⟩
  have hrk : ∀ i, i ∈ tk → i ∈ keys r.2 := by
    rw [hr]
    generalize s.ks.length + (sl.map (·.2)).length = m
    clear hr hf hs ht hk hl hvl hfs
    induction tk generalizing m with
    | nil => intro i hi; simp at hi
    | cons j tk ih =>
      intro i hi
      obtain ⟨c, c2, e1, e2, e3, _⟩ := hc j (by simp)
      simp only [anew, e1, keys, List.mem_cons]
      rcases List.mem_cons.1 hi with rfl | hi
      · exact .inl rfl
      · exact .inr (ih (fun j hj => hc j (by simp [hj])) _ i hi)
  exact {
    defers := hd
    ltm := by show _ = (putAll _ _ _).length; rw [putAll_length, forget_length]; exact hsz
    tm := fun i v hv => by
      rcases putAll_get hv with ⟨k, b, hk', rfl⟩ | ⟨hni, hg⟩
      · obtain ⟨u, hu, hau⟩ := hs k i b hk'
        obtain ⟨x, hx, hfx⟩ := hf.get (k := k) (b := b) (by
          rw [List.getElem?_append_left (by have := (List.getElem?_eq_some_iff.1 hk').1; simpa using this)]
          simp [hk'])
        have hxu : x = u.den ε2 := by
          have hlt : k < (denL ε2 vs2).length := by rw [denL_length]; exact (List.getElem?_eq_some_iff.1 hu).1
          have : l[k]? = some (u.den ε2) := by rw [hl, denL_app, List.getElem?_append_left hlt, denL_get, hu]; rfl
          rw [this] at hx; exact (Option.some.inj hx).symm
        have hat := nth_at ε l k x hx
        rw [hlen] at hat
        rw [mkSV_den (by rw [hat]; exact hfx), hat, hxu]
        exact hau
      · have hg' := forget_get hg
        rw [SV.den_append _ _ _ (wfT_get h1 hg')]
        exact ht i v hg' hni hv
    ks := hok.ks.append hf
    hp := by
      show FactsAt (ε ++ l) w' (setAll s.heap r.2)
      rw [factsAt_iff (by rw [setAll_keys]; exact hok.nd)]
      intro i c hi
      rcases findH_setAll _ _ _ _ hi with hm | ⟨hm, hi⟩
      · exact factsAt_mem hfs i c hm
      · rw [hn i (findH_mem hi), denL_append _ _ _ (wfF_find h2 hi)]
        exact hk i c hi (fun e => hm (hrk i e))
    nd := by show (keys (setAll s.heap r.2)).Nodup; rw [setAll_keys]; exact hok.nd
    dj := by
      show ∀ i j, i ∈ keys (setAll s.heap r.2) → j ∈ keys (setAll s.heap r.2) → _
      rw [setAll_keys]
      intro i j hi hj hne
      rw [hn i hi, hn j hj]
      exact hok.dj i j hi hj hne
    base := hb
    kx := Kept.refl _ _
    kws := Kept.refl _ _
    kX := by
      show ∀ i ∈ keys (setAll s.heap r.2), _
      rw [setAll_keys]
      intro i hi b hb _
      exact ⟨i, hi, hb⟩
    kM := by
      show ∀ i ∈ keys (setAll s.heap r.2), _
      rw [setAll_keys]
      intro i hi b hb hlt
      rw [hn i hi] at hb
      exact hok.kM i hi b hb hlt
    kt := by
      show ∀ i ∈ keys (setAll s.heap r.2), _
      rw [setAll_keys]
      intro i hi b hb _
      exact ⟨i, hi, hb⟩
    path := fun b q hb => by rw [BE.den_append _ _ _ (wfPath_mem h4 b q hb)]; exact hok.path b q hb }

/-! ### the code -/
def LE (live : List Nat) (Λ' Λ : Nat → List Value → World → Prop) : Prop := ∀ j ∈ live, ∀ vs w, Λ' j vs w → Λ j vs w
theorem LE.refl (live : List Nat) (Λ : Nat → List Value → World → Prop) : LE live Λ Λ := fun _ _ _ _ h => h
theorem LE.trans {live : List Nat} {Λ Λ' Λ'' : Nat → List Value → World → Prop} (h : LE live Λ'' Λ') (k : LE live Λ' Λ) : LE live Λ'' Λ := fun j hj vs w hh => k j hj vs w (h j hj vs w hh)

def ContC (G : Ctx) (Λ : Nat → List Value → World → Prop) (live : List Nat) (D : List Deferred) (ε : List Value) (K : St → VC) (KK : Act → World → Prop) : Prop :=
  ∀ Λ', LE live Λ' Λ → ∀ s' δ wx' ws' X' a' w', s'.drawn = false → Ok G D s' (ε ++ δ) wx' ws' X' a' w' → (K s').den G Λ' (ε ++ δ) wx' ws' X' → KK a' w'

theorem ContC.later {Λ Λ' : Nat → List Value → World → Prop} {live : List Nat} {ε : List Value} {K : St → VC} {KK : Act → World → Prop} (h : ContC G Λ live D ε K KK) (hl : LE live Λ' Λ) (δ : List Value) : ContC G Λ' live D (ε ++ δ) K KK :=
  fun Λ'' hl'' s' δ' wx' ws' X' a' w' hd hok hden => h Λ'' (hl''.trans hl) s' (δ ++ δ') wx' ws' X' a' w' hd (by rw [← List.append_assoc]; exact hok) (by rw [← List.append_assoc]; exact hden)

theorem ContC.now {Λ : Nat → List Value → World → Prop} {live : List Nat} {ε : List Value} {K : St → VC} {KK : Act → World → Prop} (h : ContC G Λ live D ε K KK) {s : St} {wx ws : World} {X : Nat → Prop} {a : Act} {w : World}
    (hd : s.drawn = false) (hok : Ok G D s ε wx ws X a w) (hden : (K s).den G Λ ε wx ws X) : KK a w :=
  h Λ (LE.refl _ _) s [] wx ws X a w hd (by rw [List.append_nil]; exact hok) (by rw [List.append_nil]; exact hden)

def Ex.exit' : Ex → Exit
  | .ret => .ret
  | .exit id => .exit id
  | .goto l => .goto l

theorem wp_scope_once {P : Program} {c : Code} {Q : Exit → Act → World → Prop} {a : Act} {w : World}
    (h : c.wp P (fun e a w => match e with
      | .goto l => ∃ rest, findLabel c l = some rest ∧ rest.wp P (fun e a w => match e with | .goto _ => False | e => Q e a w) a w
      | e => Q e a w) a w) : (Code.scope c).wp P Q a w := by
  intro b k cs
  obtain ⟨e, a₁, w₁, hq, harr⟩ := h b (.inScope c :: k) cs
  cases e with
  | normal => exact ⟨.normal, a₁, w₁, hq, .head step_scope (Steps.trans harr (.one step_inScope))⟩
  | exit id => exact ⟨.exit id, a₁, w₁, hq, fun k' hk => .head step_scope (harr k' (by simp [exitTo, hk]))⟩
  | goto l' =>
    obtain ⟨rest, hf, hr⟩ := hq
    have hg : gotoIn l' (.inScope c :: k) = some (.code rest :: .inScope c :: k) := by simp [gotoIn, hf]
    obtain ⟨e, a₂, w₂, hq₂, harr₂⟩ := hr b (.inScope c :: k) cs
    have pre := harr _ hg
    cases e with
    | normal => exact ⟨.normal, a₂, w₂, hq₂, .head step_scope (Steps.trans pre (Steps.trans harr₂ (.one step_inScope)))⟩
    | exit id => exact ⟨.exit id, a₂, w₂, hq₂, fun k' hk => .head step_scope (Steps.trans pre (harr₂ k' (by simp [exitTo, hk])))⟩
    | goto l => exact hq₂.elim
    | ret => exact ⟨_, a₂, w₂, hq₂, .of_steps (.head step_scope pre) harr₂⟩
    | panic ch => exact ⟨_, a₂, w₂, hq₂, .of_steps (.head step_scope pre) harr₂⟩
    | outgrown => exact ⟨_, a₂, w₂, hq₂, .of_steps (.head step_scope pre) harr₂⟩
  | ret => exact ⟨_, a₁, w₁, hq, .of_steps (.one step_scope) harr⟩
  | panic ch => exact ⟨_, a₁, w₁, hq, .of_steps (.one step_scope) harr⟩
  | outgrown => exact ⟨_, a₁, w₁, hq, .of_steps (.one step_scope) harr⟩
end
end Go.Sx
