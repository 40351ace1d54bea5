/- Part Q of a symbolic run of Go code by computation: its states, conditions and the proof that a condition that holds says what the function returns. No conditions of its own. -/
import Derived.Test.YtngemhmjpphpaaaSxP
set_option linter.unusedVariables false
set_option linter.unusedSimpArgs false
namespace Go.Sx
open Go.RowKit

section
variable {G : Ctx} {D : List Deferred}

theorem wfN_keys {n : Nat} : ∀ {fs : Facts}, wfF n fs = true → wfN n (keys fs) = true
  | [], _ => rfl
  | p :: fs, hh => by
    simp only [wfF, Bool.and_eq_true] at hh
    simp only [keys, wfN, Bool.and_eq_true]
    exact ⟨hh.1.1, wfN_keys hh.2⟩

/-- the top of a round -/
theorem Ok.loopTop {s : St} {ε : List Value} {wx ws : World} {X : Nat → Prop} {a : Act} {w : World} (hok : Ok G D s ε wx ws X a w) (hw : wfS s = true)
    {W : List Nat} {sl : List (Nat × Base)} {tk : List Nat} {r : List Base × Facts} (hr : r = anew s.ks s.heap (s.ks.length + (sl.map (·.2)).length) tk)
    {heap2 : Facts} {ε2 : List Value} {vs2 : List SV} {l : List Value} (hl : l = denL ε2 (vs2 ++ contents heap2 tk)) {a' : Act} {w' : World}
    (hf : Fits (sl.map (·.2) ++ r.1) l) (hd : Marks G D a'.defers w') (hsz : a'.tmps.size = s.tmps.length)
    (ht : ∀ i v, getL s.tmps i = some v → (∀ b, (i, b) ∉ sl) → getL (putAll (forget s.tmps W) s.ks.length sl) i = some v → a'.tmps[i]? = some (v.den ε))
    (hs : ∀ (k i : Nat) (b : Base), sl[k]? = some (i, b) → ∃ v, vs2[k]? = some v ∧ a'.tmps[i]? = some (v.den ε2))
    (hb : Kept G.M G.W0 w')
    (hk : ∀ i c, findH s.heap i = some c → i ∉ tk → HasBlk w' (nth ε i) (denL ε c))
    (hc : ∀ i ∈ tk, ∃ c c2, findH s.heap i = some c ∧ findH heap2 i = some c2 ∧ c.length = c2.length ∧ HasBlk w' (nth ε i) (denL ε2 c2)) :
    Ok G D { s with tmps := putAll (forget s.tmps W) s.ks.length sl, heap := setAll s.heap r.2, ks := s.ks ++ (sl.map (·.2) ++ r.1), t0 := [] } (ε ++ l) w' w' (BlkIn (ε ++ l) (keys s.heap)) a' w' := by
  obtain ⟨h1, h2, h3, h4⟩ := wfS_parts hw
  have hlen : ε.length = s.ks.length := hok.ks.length
  rw [← hlen] at h1 h2 h3 h4
  have hvl : (denL ε2 vs2).length = (sl.map (·.2)).length := by
    have h5 := hf.length
    rw [hl, denL_app] at hf h5
    -- the number of the slots
    have : ∀ k, k < sl.length → k < vs2.length := fun k hk => by
      obtain ⟨v, hv, _⟩ := hs k (sl[k]'hk).1 (sl[k]'hk).2 (by simp [hk])
      exact (List.getElem?_eq_some_iff.1 hv).1
    have hle : sl.length ≤ vs2.length := by
      rcases Nat.eq_zero_or_pos sl.length with h0 | h0
      · omega
      · have := this (sl.length - 1) (by omega); omega
    have hr1 : r.1.length = (contents heap2 tk).length := by
      rw [hr, anew_bases, sbases_length]
      clear hr hf h5 hs ht hk hl
      induction tk with
      | nil => rfl
      | cons i tk ih =>
        obtain ⟨c, c2, e1, e2, e3, _⟩ := hc i (by simp)
        simp only [contents, e1, e2, List.length_append, e3]
        rw [ih (fun j hj => hc j (by simp [hj]))]
    simp only [List.length_append, denL_length] at h5 ⊢
    omega
  have hn : ∀ i ∈ keys s.heap, nth (ε ++ l) i = nth ε i := fun i hi => nth_append _ _ _ (wfF_keys h2 i hi)
  have hfs : FactsAt (ε ++ l) w' r.2 := by
    have hf' := hf
    rw [hl, denL_app] at hf'
    have hf2 := (hf'.split hvl.symm).2
    have hP : (ε ++ denL ε2 vs2).length = s.ks.length + (sl.map (·.2)).length := by rw [List.length_append, hlen, hvl]
    rw [hr, ← hP] at hf2 ⊢
    refine anew_facts s.ks s.heap heap2 ε2 w' tk (ε ++ denL ε2 vs2) (ε ++ l) [] (by rw [hl, denL_app]; simp) (fun i hi => ?_) hf2
    obtain ⟨c, c2, e1, e2, e3, e4⟩ := hc i hi
    exact ⟨c, c2, e1, e2, e3, by rw [hn i (findH_mem e1)]; exact e4⟩
  have hrk : ∀ i, i ∈ tk → i ∈ keys r.2 := by
    rw [hr]
    generalize s.ks.length + (sl.map (·.2)).length = m
    clear hr hf hs ht hk hl hvl hfs
    induction tk generalizing m with
    | nil => intro i hi; simp at hi
    | cons j tk ih =>
      intro i hi
      obtain ⟨c, c2, e1, e2, e3, _⟩ := hc j (by simp)
      simp only [anew, e1, keys, List.mem_cons]
      rcases List.mem_cons.1 hi with rfl | hi
      · exact .inl rfl
      · exact .inr (ih (fun j hj => hc j (by simp [hj])) _ i hi)
  exact {
    defers := hd
    ltm := by show _ = (putAll _ _ _).length; rw [putAll_length, forget_length]; exact hsz
    tm := fun i v hv => by
      rcases putAll_get hv with ⟨k, b, hk', rfl⟩ | ⟨hni, hg⟩
      · obtain ⟨u, hu, hau⟩ := hs k i b hk'
        obtain ⟨x, hx, hfx⟩ := hf.get (k := k) (b := b) (by
          rw [List.getElem?_append_left (by have := (List.getElem?_eq_some_iff.1 hk').1; simpa using this)]
          simp [hk'])
        have hxu : x = u.den ε2 := by
          have hlt : k < (denL ε2 vs2).length := by rw [denL_length]; exact (List.getElem?_eq_some_iff.1 hu).1
          have : l[k]? = some (u.den ε2) := by rw [hl, denL_app, List.getElem?_append_left hlt, denL_get, hu]; rfl
          rw [this] at hx; exact (Option.some.inj hx).symm
        have hat := nth_at ε l k x hx
        rw [hlen] at hat
        rw [mkSlot_den (by rw [hat]; exact hfx), hat, hxu]
        exact hau
      · have hg' := forget_get hg
        rw [SV.den_append _ _ _ (wfT_get h1 hg')]
        exact ht i v hg' hni hv
    ks := hok.ks.append hf
    hp := by
      show FactsAt (ε ++ l) w' (setAll s.heap r.2)
      rw [factsAt_iff (by rw [setAll_keys]; exact hok.nd)]
      intro i c hi
      rcases findH_setAll _ _ _ _ hi with hm | ⟨hm, hi⟩
      · exact factsAt_mem hfs i c hm
      · rw [hn i (findH_mem hi), denL_append _ _ _ (wfF_find h2 hi)]
        exact hk i c hi (fun e => hm (hrk i e))
    nd := by show (keys (setAll s.heap r.2)).Nodup; rw [setAll_keys]; exact hok.nd
    dj := by
      show ∀ i j, i ∈ keys (setAll s.heap r.2) → j ∈ keys (setAll s.heap r.2) → _
      rw [setAll_keys]
      intro i j hi hj hne
      rw [hn i hi, hn j hj]
      exact hok.dj i j hi hj hne
    base := hb
    kx := Kept.refl _ _
    kws := fun _ => Kept.refl _ _
    kwz := Nat.le_refl _
    kX := by
      intro _
      show ∀ i ∈ keys (setAll s.heap r.2), _
      rw [setAll_keys]
      intro i hi b hb _
      exact ⟨i, hi, hb⟩
    kM := by
      show ∀ i ∈ keys (setAll s.heap r.2), _
      rw [setAll_keys]
      intro i hi b hb hlt
      rw [hn i hi] at hb
      exact hok.kM i hi b hb hlt
    path := fun b q hb => by rw [BE.den_append _ _ _ (wfPath_mem h4 b q hb)]; exact hok.path b q hb }

/-! blocks that are tracked no longer -/
theorem dropF_keys (ks : List Nat) : ∀ fs : Facts, (keys (dropF ks fs)).Sublist (keys fs)
  | [] => List.Sublist.slnil
  | (i, l) :: fs => by
    simp only [dropF, keys]
    split
    · exact (dropF_keys ks fs).cons _
    · exact (dropF_keys ks fs).cons_cons _
theorem dropF_facts {ε : List Value} {w : World} (ks : List Nat) : ∀ {fs : Facts}, FactsAt ε w fs → FactsAt ε w (dropF ks fs)
  | [], h => h
  | (i, l) :: fs, h => by
    simp only [dropF]
    split
    · exact dropF_facts ks h.2
    · exact ⟨h.1, dropF_facts ks h.2⟩
theorem Ok.drop {G : Ctx} {D : List Deferred} {s : St} {ε : List Value} {wx ws : World} {X : Nat → Prop} {a : Act} {w : World} (hok : Ok G D s ε wx ws X a w) (l : List Nat) : Ok G D (dropS s l) ε wx ws X a w :=
  have hsub : ∀ i, i ∈ keys (dropF (dropK s.tmps l) s.heap) → i ∈ keys s.heap := fun i hi => (dropF_keys _ _).subset hi
  { hok with
    hp := dropF_facts _ hok.hp
    nd := hok.nd.sublist (dropF_keys _ _)
    dj := fun i j hi hj => hok.dj i j (hsub i hi) (hsub j hj)
    kX := fun hd i hi => hok.kX hd i (hsub i hi)
    kM := fun i hi => hok.kM i (hsub i hi) }

/-! ### the code -/
def LE (live : List Nat) (Λ' Λ : Nat → List Value → World → Prop) : Prop := ∀ j ∈ live, ∀ vs w, Λ' j vs w → Λ j vs w
theorem LE.refl (live : List Nat) (Λ : Nat → List Value → World → Prop) : LE live Λ Λ := fun _ _ _ _ h => h
theorem LE.trans {live : List Nat} {Λ Λ' Λ'' : Nat → List Value → World → Prop} (h : LE live Λ'' Λ') (k : LE live Λ' Λ) : LE live Λ'' Λ := fun j hj vs w hh => k j hj vs w (h j hj vs w hh)

def ContC (G : Ctx) (Λ : Nat → List Value → World → Prop) (live : List Nat) (D : List Deferred) (ε : List Value) (K : St → VC) (KK : Act → World → Prop) : Prop :=
  ∀ Λ', LE live Λ' Λ → ∀ s' δ wx' ws' X' a' w', s'.drawn = false → Ok G D s' (ε ++ δ) wx' ws' X' a' w' → (K s').den G Λ' (ε ++ δ) wx' ws' X' → KK a' w'

theorem ContC.later {Λ Λ' : Nat → List Value → World → Prop} {live : List Nat} {ε : List Value} {K : St → VC} {KK : Act → World → Prop} (h : ContC G Λ live D ε K KK) (hl : LE live Λ' Λ) (δ : List Value) : ContC G Λ' live D (ε ++ δ) K KK :=
  fun Λ'' hl'' s' δ' wx' ws' X' a' w' hd hok hden => h Λ'' (hl''.trans hl) s' (δ ++ δ') wx' ws' X' a' w' hd (by rw [← List.append_assoc]; exact hok) (by rw [← List.append_assoc]; exact hden)

theorem ContC.now {Λ : Nat → List Value → World → Prop} {live : List Nat} {ε : List Value} {K : St → VC} {KK : Act → World → Prop} (h : ContC G Λ live D ε K KK) {s : St} {wx ws : World} {X : Nat → Prop} {a : Act} {w : World}
    (hd : s.drawn = false) (hok : Ok G D s ε wx ws X a w) (hden : (K s).den G Λ ε wx ws X) : KK a w :=
  h Λ (LE.refl _ _) s [] wx ws X a w hd (by rw [List.append_nil]; exact hok) (by rw [List.append_nil]; exact hden)

def Ex.exit' : Ex → Exit
  | .ret => .ret
  | .exit id => .exit id
  | .goto l => .goto l

theorem wp_scope_once {P : Program} {c : Code} {Q : Exit → Act → World → Prop} {a : Act} {w : World}
    (h : c.wp P (fun e a w => match e with
      | .goto l => ∃ rest, findLabel c l = some rest ∧ rest.wp P (fun e a w => match e with | .goto _ => False | e => Q e a w) a w
      | e => Q e a w) a w) : (Code.scope c).wp P Q a w := by
  intro b k cs
  obtain ⟨e, a₁, w₁, hq, harr⟩ := h b (.inScope c :: k) cs
  cases e with
  | normal => exact ⟨.normal, a₁, w₁, hq, .head step_scope (Steps.trans harr (.one step_inScope))⟩
  | exit id => exact ⟨.exit id, a₁, w₁, hq, fun k' hk => .head step_scope (harr k' (by simp [exitTo, hk]))⟩
  | goto l' =>
    obtain ⟨rest, hf, hr⟩ := hq
    have hg : gotoIn l' (.inScope c :: k) = some (.code rest :: .inScope c :: k) := by simp [gotoIn, hf]
    obtain ⟨e, a₂, w₂, hq₂, harr₂⟩ := hr b (.inScope c :: k) cs
    have pre := harr _ hg
    cases e with
    | normal => exact ⟨.normal, a₂, w₂, hq₂, .head step_scope (Steps.trans pre (Steps.trans harr₂ (.one step_inScope)))⟩
    | exit id => exact ⟨.exit id, a₂, w₂, hq₂, fun k' hk => .head step_scope (Steps.trans pre (harr₂ k' (by simp [exitTo, hk])))⟩
    | goto l => exact hq₂.elim
    | ret => exact ⟨_, a₂, w₂, hq₂, .of_steps (.head step_scope pre) harr₂⟩
    | panic ch => exact ⟨_, a₂, w₂, hq₂, .of_steps (.head step_scope pre) harr₂⟩
    | outgrown => exact ⟨_, a₂, w₂, hq₂, .of_steps (.head step_scope pre) harr₂⟩
  | ret => exact ⟨_, a₁, w₁, hq, .of_steps (.one step_scope) harr⟩
  | panic ch => exact ⟨_, a₁, w₁, hq, .of_steps (.one step_scope) harr⟩
  | outgrown => exact ⟨_, a₁, w₁, hq, .of_steps (.one step_scope) harr⟩
/-! ### ranges over functions -/
theorem goFunc_run {P : Program} {g : Nat} (h : goFunc P g = true) (args : Array Value) (w : World) : (callFunc g args).run P w = .ok (.enter g args) w := by
  unfold goFunc at h
  split at h
  · rename_i fn hfn
    simp only [Bool.and_eq_true, Bool.not_eq_true', beq_eq_false_iff_ne, ne_eq] at h
    have hbody : fn.body.isNone = false := by cases hb : fn.body <;> simp [hb] at h ⊢
    have hname : (fn.name == "runtime.NumGoroutine") = false := by simpa using h.2
    have hbody' : ¬ fn.body = none := fun e => by simp [e] at hbody
    have hname' : ¬ fn.name = "runtime.NumGoroutine" := fun e => by simp [e] at hname
    simp [callFunc, hfn, hname', hbody']
  · cases h

theorem Fits.split2 : ∀ {bs cs : List Base} {x : List Value}, Fits (bs ++ cs) x → Fits bs (x.take bs.length) ∧ Fits cs (x.drop bs.length)
  | [], cs, x, h => ⟨trivial, h⟩
  | b :: bs, cs, [], h => h.elim
  | b :: bs, cs, v :: x, h => by
    have := Fits.split2 (bs := bs) (cs := cs) (x := x) h.2
    exact ⟨⟨h.1, this.1⟩, this.2⟩

theorem freshTys_den {P : Program} : ∀ {tys : List TypeId} {A x : List Value} {n : Nat} {bs : List Base} {vs : List SV}, freshTys P n tys = some (bs, vs) → A.length = n → Fits bs x → denL (A ++ x) vs = yvals P tys x
  | [], A, x, n, bs, vs, h, hA, hf => by
    simp only [freshTys, Option.some.injEq, Prod.mk.injEq] at h
    obtain ⟨rfl, rfl⟩ := h
    rfl
  | t :: ts, A, x, n, bs, vs, h, hA, hf => by
    simp only [freshTys] at h
    split at h
    · cases h
    · rename_i bs1 v1 h1
      split at h
      · cases h
      · rename_i bs2 vs2 h2
        simp only [Option.some.injEq, Prod.mk.injEq] at h
        obtain ⟨rfl, rfl⟩ := h
        obtain ⟨f1, f2⟩ := hf.split2
        have hx : A ++ x = A ++ x.take bs1.length ++ x.drop bs1.length := by rw [List.append_assoc, List.take_append_drop]
        have hl1 : (x.take bs1.length).length = bs1.length := f1.length
        have ih := freshTys_den (A := A ++ x.take bs1.length) (x := x.drop bs1.length) h2 (by rw [List.length_append, hA, hl1]) f2
        rw [← hx] at ih
        simp only [denL, ih, yvals]
        unfold freshTy at h1
        split at h1
        · rename_i cs hz
          simp only [Option.some.injEq, Prod.mk.injEq] at h1
          obtain ⟨rfl, rfl⟩ := h1
          have hlen : (cs.toList.map baseOf).length = cs.size := by simp
          have := mkSVs_den A f1 (x.drop (cs.toList.map baseOf).length)
          rw [← hx, hA] at this
          rw [hz]
          simp only [SV.den, this]
          rw [hlen]
        · rename_i z hne hz
          simp only [Option.some.injEq, Prod.mk.injEq] at h1
          obtain ⟨rfl, rfl⟩ := h1
          have := mkSVs_den A f1 (x.drop [baseOf z].length)
          rw [← hx, hA] at this
          match x, f1 with
          | y :: x, f1 =>
            simp only [mkSVs, denL, List.length_singleton, List.take_succ_cons, List.take_zero, List.cons.injEq, and_true] at this
            rw [hz]
            cases z <;> first | exact (hne _ rfl).elim | (simp only [this, List.headD_cons, List.length_singleton])
        · cases h1

theorem Kept.putObj {M : Nat → Prop} {w w' : World} (h : Kept M w w') {L : Nat} {o : Obj} (hL : L < w.heap.size → M L) : Kept M w (w'.putObj L o) :=
  ⟨h.os, h.tape, h.output, by simp [World.putObj]; exact h.size, fun k hk hm => (World.putObj_heap_other (fun e => hm (by rw [e]; exact hL (by rw [← e]; exact hk)))).trans (h.block k hk hm)⟩

theorem Marks.toL {D ds : List Deferred} {w w' : World} (h : Marks G D ds w) {L : Nat} {r : Loop} (hL : w.heap[L]? = some (.loop r)) (hge : G.W0.heap.size ≤ L) (hk : G.rc = true → ∀ b, IsRec w b → b ≠ L → w'.heap[b]? = w.heap[b]?) : Marks G D ds w' where
  none := h.none
  keep := h.keep
  one := fun d hd => by
    obtain ⟨b, h1, h2, h3⟩ := h.one d hd
    exact ⟨b, h1, h2, (hk (h.keep (fun e => by rw [e] at hd; simp at hd)) b ⟨_, h3, rfl⟩ (fun e => by rw [e, hL] at h3; cases h3)).trans h3⟩
  nd := h.nd
  recs := fun hr b hb => by
    have h1 := h.recs hr b hb
    obtain ⟨o, ho, hi⟩ := hb
    have hlt := (Array.getElem?_eq_some_iff.1 ho).1
    refine (hk hr b ⟨o, by rw [h1]; exact ho, hi⟩ (fun e => by omega)).trans h1

theorem HasBlk.keptL {w w' : World} {q : Value} {l : List Value} (h : HasBlk w q l) {L : Nat} {r : Loop} (hL : w.heap[L]? = some (.loop r)) (hk : Kept (fun b => b = L) w w') : HasBlk w' q l := by
  obtain ⟨b, ty, hb, hh⟩ := h
  refine ⟨b, ty, hb, (hk.block b (Array.getElem?_eq_some_iff.1 hh).1 (fun e => ?_)).trans hh⟩
  rw [e, hL] at hh
  cases hh

/-- the world a step on, where but for a loop's record nothing has changed -/
theorem Ok.moveL {D : List Deferred} {s : St} {ε : List Value} {wx ws : World} {X : Nat → Prop} {a : Act} {w w' : World} (hok : Ok G D s ε wx ws X a w) {L : Nat} {r : Loop} (hL : w.heap[L]? = some (.loop r)) (hge : G.W0.heap.size ≤ L)
    (hk : Kept (fun b => b = L) w w') : Ok G D s ε w' w' (BlkIn ε (keys s.heap)) a w' := {
  defers := hok.defers.toL hL hge fun _ b hb hne => hk.block b (by obtain ⟨o, ho, _⟩ := hb; exact (Array.getElem?_eq_some_iff.1 ho).1) hne
  ltm := hok.ltm
  tm := hok.tm
  ks := hok.ks
  hp := by
    rw [factsAt_iff hok.nd]
    intro i l hi
    exact (findH_facts hok.hp hi).keptL hL hk
  nd := hok.nd
  dj := hok.dj
  base := hok.base.then hk fun i hi e => absurd hi (by omega)
  kx := Kept.refl _ _
  kws := fun _ => Kept.refl _ _
  kwz := Nat.le_refl _
  kX := fun _ i hi b hb _ => ⟨i, hi, hb⟩
  kM := hok.kM
  path := hok.path }

theorem putSt_ok : ∀ {ps : List Nat} {vs : List SV} {D : List Deferred} {s : St} {ε : List Value} {wx ws : World} {X : Nat → Prop} {a : Act} {w : World}, ps.length = vs.length → Ok G D s ε wx ws X a w →
    Ok G D (putSt s ps vs) ε wx ws X { a with tmps := (ps.zip (denL ε vs)).foldl (fun t p => t.setIfInBounds p.1 p.2) a.tmps } w
  | [], [], _, _, _, _, _, _, _, _, _, h => h
  | p :: ps, v :: vs, D, s, ε, wx, ws, X, a, w, hl, h => by
    have h1 := h.put (some p) v
    have h2 := putSt_ok (ps := ps) (vs := vs) (by simpa using hl) h1
    exact h2
  | [], _ :: _, _, _, _, _, _, _, _, _, hl, _ => by simp at hl
  | _ :: _, [], _, _, _, _, _, _, _, _, hl, _ => by simp at hl
theorem putSt_drawn : ∀ (ps : List Nat) (vs : List SV) (s : St), (putSt s ps vs).drawn = s.drawn
  | [], _, _ => rfl
  | _ :: _, [], _ => rfl
  | p :: ps, v :: vs, s => by simp only [putSt]; rw [putSt_drawn ps vs]; rfl
theorem putSt_heap : ∀ (ps : List Nat) (vs : List SV) (s : St), (putSt s ps vs).heap = s.heap
  | [], _, _ => rfl
  | _ :: _, [], _ => rfl
  | p :: ps, v :: vs, s => by simp only [putSt]; rw [putSt_heap ps vs]; rfl

/-- the same state as a round sees it -/
theorem Ok.toRound {D : List Deferred} {s : St} {ε : List Value} {X : Nat → Prop} {a : Act} {w : World} (hok : Ok G D s ε w w X a w) {w0 : World} {Ft : Nat → Prop} (hlt : ∀ i ∈ keys s.heap, ∀ b, blkOf (nth ε i) = some b → b < w0.heap.size ∧ ¬ Ft b) :
    Ok (G.round w0 w Ft) [] s ε w w X { a with defers := [] } w := {
  defers := Marks.empty fun _ _ _ => rfl
  ltm := hok.ltm
  tm := hok.tm
  ks := hok.ks
  hp := hok.hp
  nd := hok.nd
  dj := hok.dj
  base := Kept.refl _ _
  kx := hok.kx
  kws := hok.kws
  kwz := hok.kwz
  kX := hok.kX
  kM := fun i hi b hb _ => ⟨(hlt i hi b hb).1, fun h => hok.kM i hi b hb h, (hlt i hi b hb).2⟩
  path := hok.path }

def applyA : List (Nat × Nat) → Act → Act
  | [], a => a
  | (d, t) :: l, a => applyA l (a.put (some d) (a.tmps.getD t undef))
theorem applyA_append : ∀ (l m : List (Nat × Nat)) (a : Act), applyA (l ++ m) a = applyA m (applyA l a)
  | [], _, _ => rfl
  | (d, t) :: l, m, a => by simp only [List.cons_append, applyA]; exact applyA_append l m _
theorem applyA_defers : ∀ (l : List (Nat × Nat)) (a : Act), (applyA l a).defers = a.defers
  | [], _ => rfl
  | (d, t) :: l, a => by simp only [applyA]; rw [applyA_defers l]; rfl
theorem putA_ok : ∀ {l : List (Nat × Nat)} {D : List Deferred} {s s' : St} {ε : List Value} {wx ws : World} {X : Nat → Prop} {a : Act} {w : World}, putA s l = some s' → Ok G D s ε wx ws X a w → Ok G D s' ε wx ws X (applyA l a) w
  | [], _, _, _, _, _, _, _, _, _, h, hok => by simp only [putA, Option.some.injEq] at h; subst h; exact hok
  | (d, t) :: l, _, s, s', ε, wx, ws, X, a, w, h, hok => by
    simp only [putA] at h
    split at h
    · rename_i v hv
      have h1 := hok.put (some d) v
      have e : a.tmps.getD t undef = v.den ε := by simp [Array.getD_eq_getD_getElem?, hok.tm t v hv]
      simp only [applyA]
      rw [e]
      exact putA_ok h h1
    · cases h
theorem putA_drawn : ∀ {l : List (Nat × Nat)} {s s' : St}, putA s l = some s' → s'.drawn = s.drawn
  | [], _, _, h => by simp only [putA, Option.some.injEq] at h; subst h; rfl
  | (d, t) :: l, s, s', h => by
    simp only [putA] at h
    split at h
    · rw [putA_drawn h]; rfl
    · cases h
theorem simpOps_get : ∀ {ops : List Oper} {l : List (Nat × Nat)}, simpOps ops = some l → ∀ (pre : List Oper) (all : Array Oper) (K : Act → World → Prop) (P : Program) (a : Act) (w : World), all.toList = pre ++ ops → K (applyA l a) w → seqG P all K (List.range' pre.length ops.length) a w
  | [], l, h, pre, all, K, P, a, w, hall, hk => by
    simp only [simpOps, Option.some.injEq] at h
    subst h
    exact hk
  | o :: r, l, h, pre, all, K, P, a, w, hall, hk => by
    simp only [simpOps] at h
    split at h
    · rename_i d t l' hd ho hg hr
      cases h
      simp only [List.length_cons, List.range'_succ, seqG]
      have hget : all[pre.length]? = some o := by
        rw [← Array.getElem?_toList, hall]
        simp
      unfold opG
      rw [hget]
      simp only
      rw [if_pos (by simp [Region.wanted, hg])]
      refine .inl ⟨a.tmps.getD t undef, w, .inl ?_, ?_⟩
      · simp [execOp, ho, Act.eval]
      · have := simpOps_get hr (pre ++ [o]) all K P (a.put o.dst (a.tmps.getD t undef)) w (by rw [hall]; simp) (by rw [hd]; exact hk)
        simpa using this
    · cases h
theorem wp_simpA {r : Option Nat} {n : Nat} {P : Program} {Q : Exit → Act → World → Prop} : ∀ {code : Code} {l : List (Nat × Nat)}, simpA code = some l → ∀ {a : Act} {w : World}, Q .normal (applyA l a) w → code.wpIn (FF r) n P Q a w
  | .skip, l, h, a, w, hq => by
    simp only [simpA, Option.some.injEq] at h
    subst h
    exact wpIn_skip hq
  | .seq x y, l, h, a, w, hq => by
    simp only [simpA] at h
    split at h
    · rename_i l1 l2 h1 h2
      cases h
      rw [applyA_append] at hq
      exact wpIn_seq (wp_simpA h1 (wp_simpA h2 hq))
    · cases h
  | .region id ops true, l, h, a, w, hq => by simp [simpA] at h
  | .region id ops false, l, h, a, w, hq => by
    simp only [simpA] at h
    have hnd : ∀ (i : Nat) (o : Oper), ops[i]? = some o → noDefer o = true := by
      have key : ∀ (os : List Oper) (l : List (Nat × Nat)), simpOps os = some l → ∀ o ∈ os, noDefer o = true := by
        intro os
        induction os with
        | nil => intro l _ o ho; simp at ho
        | cons x os ih =>
          intro l hl o ho
          simp only [simpOps] at hl
          split at hl
          · rename_i d t l' hd hop hg hr
            rcases List.mem_cons.1 ho with rfl | ho
            · simp [noDefer, hop]
            · exact ih _ hr o ho
          · cases hl
      intro i o ho
      exact key _ _ h o (Array.mem_toList_iff.2 (Array.mem_of_getElem? ho))
    refine wpIn_region (seqG_wpOpsIn hnd _ _ _ ?_)
    have := simpOps_get h [] ops (Q .normal) P a w (by simp) hq
    simpa [List.range_eq_range'] using this
  | .cond .., l, h, a, w, hq => by simp [simpA] at h
  | .block .., l, h, a, w, hq => by simp [simpA] at h
  | .loop _, l, h, a, w, hq => by simp [simpA] at h
  | .scope _, l, h, a, w, hq => by simp [simpA] at h
  | .ret, l, h, a, w, hq => by simp [simpA] at h
  | .exit _, l, h, a, w, hq => by simp [simpA] at h
  | .goto _, l, h, a, w, hq => by simp [simpA] at h
  | .label _, l, h, a, w, hq => by simp [simpA] at h
  | .refuse _, l, h, a, w, hq => by simp [simpA] at h
  | .rangeFunc .., l, h, a, w, hq => by simp [simpA] at h
end
end Go.Sx
