/- Part R of a symbolic run of Go code by computation: its states, conditions and the proof that a condition that holds says what the function returns. No conditions of its own. -/
import Derived.Test.YtngemhmjpphpaaaSxQ
set_option linter.unusedVariables false
set_option linter.unusedSimpArgs false
namespace Go.Sx
open Go.RowKit

section
variable {G : Ctx} {D : List Deferred}

theorem cont_of {c : Cfg} {Λ : Nat → List Value → World → Prop} {live : List Nat} {s : St} {ε : List Value} {ws : World} {X : Nat → Prop} {K : St → VC} {KK : Act → World → Prop} (hd : s.drawn = false) (h : ContC G Λ live D ε K KK) :
    Cont G Λ D none s ε ws X K KK := by
  intro s' ε' wx' ws' X' a' w' hn hok hden
  obtain ⟨δ, rfl⟩ := hn.env
  exact h Λ (LE.refl _ _) s' δ wx' ws' X' a' w' (hn.drawn.trans hd) hok hden

theorem exC_sound (hmix : G.P.follows .mixedOrders = true) {r : Option Nat} {nn : Nat} : ∀ (n : Nat) (c : Cfg) (code : Code) (K : St → VC) (Kx : Ex → St → VC) (Q : Exit → Act → World → Prop) (Λ : Nat → List Value → World → Prop)
    (s : St) (ε : List Value) (wx ws : World) (X : Nat → Prop) (a : Act) (w : World), c.P = G.P → (c.inRound = false → r = none) → s.drawn = false → Ok G D s ε wx ws X a w → (exC c n code K Kx s).den G Λ ε wx ws X →
    ContC G Λ c.live D ε K (Q .normal) → (∀ e, ContC G Λ c.live D ε (Kx e) (Q (Ex.exit' e))) → code.wpIn (FF r) nn G.P Q a w := by
  intro n
  induction n with
  | zero => intro c code K Kx Q Λ s ε wx ws X a w _ _ _ _ h; exact h.elim
  | succ n ih =>
    intro c code K Kx Q Λ s ε wx ws X a w hP hR hd hok h hK hKx
    cases code with
    | skip => exact wpIn_skip (hK.now hd hok h)
    | label l => exact wpIn_label (hK.now hd hok h)
    | ret => exact wpIn_ret ((hKx .ret).now hd hok h)
    | exit id => exact wpIn_exit ((hKx (.exit id)).now hd hok h)
    | goto l => exact wpIn_goto ((hKx (.goto l)).now hd hok h)
    | refuse why => exact h.elim
    | rangeFunc _ _ _ _ => exact h.elim
    | seq x y =>
      refine wpIn_seq (ih c x _ Kx _ Λ s ε wx ws X a w hP hR hd hok h ?_ ?_)
      · intro Λ' hl s' δ wx' ws' X' a' w' hd' hok' hden
        exact ih c y K Kx Q Λ' s' (ε ++ δ) wx' ws' X' a' w' hP hR hd' hok' hden (hK.later hl δ) (fun e => (hKx e).later hl δ)
      · intro e
        have := hKx e
        cases e <;> exact this
    | cond x y z =>
      simp only [exC] at h
      split at h
      · rename_i p hx
        have hv := ev_den hok hx
        have go : ∀ q (s' : St), s'.drawn = false → Ok G D s' ε wx ws X a w → p.den ε = q → (exC c n (if q then y else z) K Kx s').den G Λ ε wx ws X → (Code.cond x y z).wpIn (FF r) nn G.P Q a w := by
          intro q s' hd' hok' hq h'
          refine wpIn_cond (t := q) (by rw [hv]; simp only [SV.den, hq]) (ih c _ K Kx Q Λ s' ε wx ws X a w hP hR hd' hok' h' hK hKx)
        have hp : ∀ q, p.den ε = q → ∀ b' r', (b', r') ∈ (p, q) :: s.path → b'.den ε = r' := by
          intro q hq b' r' hm
          simp only [List.mem_cons, Prod.mk.injEq] at hm
          rcases hm with ⟨rfl, rfl⟩ | hm
          · exact hq
          · exact hok.path b' r' hm
        split at h
        · rename_i hr; exact go true s hd hok (known_sound hok.path hr) h
        · rename_i hr; exact go false s hd hok (known_sound hok.path hr) h
        · cases hq : p.den ε with
          | true => exact go true { s with path := (p, true) :: s.path } hd (hok.addPath _ (hp _ hq)) hq (h.1 hq)
          | false => exact go false { s with path := (p, false) :: s.path } hd (hok.addPath _ (hp _ hq)) hq (h.2 hq)
      · exact h.elim
    | block id b =>
      refine wpIn_block (ih c b K _ _ Λ s ε wx ws X a w hP hR hd hok h hK ?_)
      intro e
      cases e with
      | exit j =>
        intro Λ' hl s' δ wx' ws' X' a' w' hd' hok' hden
        show (if j = id then Q .normal a' w' else Q (.exit j) a' w')
        by_cases hj : Nat.beq j id = true
        · simp only [hj, if_true] at hden
          rw [if_pos (Nat.eq_of_beq_eq_true hj)]
          exact hK Λ' hl s' δ wx' ws' X' a' w' hd' hok' hden
        · simp only [hj] at hden
          rw [if_neg (by simpa using hj)]
          exact hKx (.exit j) Λ' hl s' δ wx' ws' X' a' w' hd' hok' hden
      | ret => exact hKx .ret
      | goto l => exact hKx (.goto l)
    | region id ops draw =>
      simp only [exC] at h
      split at h
      · rename_i hnd
        have hnd' : ∀ (i : Nat) (o : Oper), ops[i]? = some o → noDefer o = true := fun i o ho => List.all_eq_true.1 hnd o (by
          have := Array.mem_of_getElem? ho
          exact Array.mem_toList_iff.2 this)
        split at h
        · rename_i hdr
          subst hdr
          split at h
          · rename_i hwf
            simp only [Bool.and_eq_true] at hwf
            obtain ⟨hwf, hns⟩ := hwf
            have hwf2 := wfS_parts hwf
            have hlen : ε.length = s.ks.length := hok.ks.length
            let wd : World := { w with drawn := w.drawn + 1 }
            have hfact : FactsAt ε wd s.heap := by
              rw [factsAt_iff hok.nd]
              intro i l hi
              have h9 : HasBlk w (nth ε i) (denL ε l) := findH_facts hok.hp hi
              exact h9
            have hsh : Shown G ε s.t0 s.heap wx wd := ⟨⟨hok.kx.os, hok.kx.tape, hok.kx.output, hok.kx.size, hok.kx.block⟩, ⟨hok.base.os, hok.base.tape, hok.base.output, hok.base.size, hok.base.block⟩, hfact⟩
            have h1 := h wd hsh
            simp only [if_true] at h1
            obtain ⟨X1, hX1, h1⟩ := h1
            have hok1 : Ok G D { s with drawn := true, t0 := keys s.heap } ε wd wd X1 a wd := {
              defers := hok.defers
              ltm := hok.ltm
              tm := hok.tm
              ks := hok.ks
              hp := hfact
              nd := hok.nd
              dj := hok.dj
              base := hsh.base
              kx := Kept.refl _ _
              kws := Kept.refl _ _
              kX := fun i hi b hb _ => hX1 b ⟨i, hi, hb⟩
              kM := hok.kM
              kt := fun i hi b hb _ => ⟨i, hi, hb⟩
              path := hok.path }
            refine wpIn_region_any hmix (anyG_wpAnyIn hnd' _ _ _ _ (exDraw_sound (s0 := { s with drawn := true, t0 := keys s.heap }) (ε0 := ε) hP hns ?_ (2 * ops.size + 1) ops.size _ { s with drawn := true, t0 := keys s.heap } ε wd a wd ?_ ?_ hok1 h1))
            · intro s' ε' wx' a' w' hi hok' hden
              obtain ⟨δ, rfl⟩ := hi.nx.env
              have hok2 : Ok G D { s' with drawn := false } (ε ++ δ) wx' wd X1 a' w' := { hok' with }
              exact hK Λ (LE.refl _ _) { s' with drawn := false } δ wx' wd X1 a' w' rfl hok2 hden
            · simp
            · refine ⟨Nx.refl _ _ _ _ _, by rw [hlen]; exact hwf2.2.1, ?_, rfl⟩
              intro i hi
              split at hi
              · simp at hi
              · rw [hlen]; exact blt_true (wfF_keys hwf2.2.1 i hi)
          · exact h.elim
        · rename_i hdr
          have hdr' : draw = false := by simpa using hdr
          subst hdr'
          refine wpIn_region (seqG_wpOpsIn hnd' _ _ _ ?_)
          have := exSeq_sound (c := c) (K := K) (KK := Q .normal) (Λ := Λ) (ops := ops) (D := D) hP ops.toList 0 (fun k => by simp) hok h (cont_of (c := c) hd hK)
          simpa using this
      · exact h.elim
    | scope b =>
      simp only [exC] at h
      split at h
      · exact h.elim
      · rename_i hir
        have hr0 : r = none := hR (by simpa using hir)
        subst hr0
        rw [FF_none]
        refine wpIn_wide.2 (wp_scope_once ?_)
        have key := ih c b K _ (fun e a w => match e with
          | .goto l => ∃ rest, findLabel b l = some rest ∧ rest.wp G.P (fun e a w => match e with | .goto _ => False | e => Q e a w) a w
          | e => Q e a w) Λ s ε wx ws X a w hP hR hd hok h hK ?_
        · rw [FF_none] at key
          exact wpIn_wide.1 key
        · intro e
          cases e with
          | ret => exact hKx .ret
          | exit id => exact hKx (.exit id)
          | goto l =>
            intro Λ' hl s' δ wx' ws' X' a' w' hd' hok' hden
            simp only [Ex.exit'] at hden ⊢
            split at hden
            · rename_i rest hrest
              refine ⟨rest, hrest, ?_⟩
              have k2 := ih c rest K _ (fun e a w => match e with | .goto _ => False | e => Q e a w) Λ' s' (ε ++ δ) wx' ws' X' a' w' hP hR hd' hok' hden (hK.later hl δ) ?_
              · rw [FF_none] at k2
                exact wpIn_wide.1 k2
              · intro e
                cases e with
                | ret => exact (hKx .ret).later hl δ
                | exit id => exact (hKx (.exit id)).later hl δ
                | goto l' =>
                  intro Λ'' hl' s'' δ' wx'' ws'' X'' a'' w'' hd'' hok'' hden''
                  exact hden''.elim
            · exact hden.elim
    | loop b =>
      simp only [exC] at h
      split at h
      · exact h.elim
      · rename_i li hli
        split at h
        · rename_i vs tk hvs htk
          split at h
          · rename_i hchk
            simp only [Bool.and_eq_true, Bool.not_eq_true'] at hchk
            obtain ⟨⟨⟨⟨⟨hwf, hwl⟩, hwc⟩, hfa⟩, hfc⟩, hlive⟩ := hchk
            have hlen : ε.length = s.ks.length := hok.ks.length
            have hwf2 := wfS_parts hwf
            obtain ⟨I, μ, hI, hall⟩ := h w hok.shown
            have hfits : ∀ {s2 : St} {ε2 : List Value} {vs2 : List SV}, Fits s2.ks ε2 → fitsAll s2.ks (li.slots.map (·.2)) vs2 = true → fitsAll s2.ks (sbases s.ks (contents s.heap tk)) (contents s2.heap tk) = true →
                Fits (li.slots.map (·.2) ++ (anew s.ks s.heap (s.ks.length + (li.slots.map (·.2)).length) tk).1) (denL ε2 (vs2 ++ contents s2.heap tk)) := by
              intro s2 ε2 vs2 h0 h1 h2
              rw [anew_bases, denL_app]
              exact (fitsAll_den h0 h1).append (fitsAll_den h0 h2)
            -- at the entry
            have hentry := hok.loopTop hwf (W := writes b) (sl := li.slots) (tk := tk) rfl (heap2 := s.heap) (ε2 := ε) (vs2 := vs) rfl (a' := a) (w' := w)
              (hfits (s2 := s) hok.ks hfa hfc) hok.defers hok.ltm (fun i v hv _ _ => hok.tm i v hv)
              (fun k i b' hk => by
                obtain ⟨v, hv, hg⟩ := slotVals_get hvs k i b' hk
                exact ⟨v, hv, hok.tm i v hg⟩)
              hok.base (fun i c' hc' _ => findH_facts hok.hp hc')
              (fun i hi => by
                obtain ⟨c', hc'⟩ := touchKeys_found htk i hi
                exact ⟨c', c', hc', hc', rfl, findH_facts hok.hp hc'⟩)
            refine wpIn_loop_ghost (fun k a' w' => ∃ l, Fits (li.slots.map (·.2) ++ (anew s.ks s.heap (s.ks.length + (li.slots.map (·.2)).length) tk).1) l ∧ I l w' ∧ μ l w' = k ∧
              Ok G D { s with tmps := putAll (forget s.tmps (writes b)) s.ks.length li.slots, heap := setAll s.heap (anew s.ks s.heap (s.ks.length + (li.slots.map (·.2)).length) tk).2, ks := s.ks ++ (li.slots.map (·.2) ++ (anew s.ks s.heap (s.ks.length + (li.slots.map (·.2)).length) tk).1), t0 := keys s.heap } (ε ++ l) w' w' (BlkIn (ε ++ l) (keys s.heap)) a' w')
              (μ (denL ε (vs ++ contents s.heap tk)) w) ⟨_, hfits (s2 := s) hok.ks hfa hfc, hI, rfl, hentry⟩ ?_
            rintro k a' w' ⟨l, hfl, hIl, rfl, hok'⟩
            have hbody := allB_elim hall hfl w' hIl hok'.base hok'.hp
            refine ih { c with live := li.i :: c.live } b _ Kx _ _ _ (ε ++ l) w' w' _ a' w' hP hR ?_ hok' hbody ?_ ?_
            · exact hd
            · -- the end of the round
              intro Λ' hl s2 δ wx' ws' X' a'' w'' hd' hok'' hden
              simp only at hden
              split at hden
              · rename_i vs2 hvs2
                split at hden
                · rename_i hchk2
                  simp only [Bool.and_eq_true] at hchk2
                  obtain ⟨⟨⟨⟨⟨⟨hwf2', hfa2⟩, hfc2⟩, hkf⟩, hlo⟩, hkt⟩, hln⟩ := hchk2
                  have hleaf := hl li.i (by simp) _ _ (hden w'' hok''.shown)
                  simp only [if_true] at hleaf
                  have hεl : (ε ++ l ++ δ).length ≥ ε.length := by simp
                  have hnth : ∀ i ∈ keys s.heap, nth (ε ++ l ++ δ) i = nth ε i := fun i hi => by rw [List.append_assoc]; exact nth_append _ _ _ (by rw [hlen]; exact wfF_keys hwf2.2.1 i hi)
                  refine ⟨μ (denL (ε ++ l ++ δ) (vs2 ++ contents s2.heap tk)) w'', hleaf.2, _, hfits (s2 := s2) hok''.ks hfa2 hfc2, hleaf.1, rfl, ?_⟩
                  refine hok.loopTop hwf (W := writes b) (sl := li.slots) (tk := tk) rfl (heap2 := s2.heap) (ε2 := ε ++ l ++ δ) (vs2 := vs2) rfl (a' := a'') (w' := w'')
                    (hfits (s2 := s2) hok''.ks hfa2 hfc2) hok''.defers (by rw [hok''.ltm, Nat.eq_of_beq_eq_true hln, putAll_length, forget_length]) ?_ ?_ hok''.base ?_ ?_
                  · intro i v hv hni hput
                    obtain ⟨u, hu, hsame⟩ := keptT_get hkt i v hput (by
                      simp only [Nat.zero_add, List.mem_map]
                      rintro ⟨⟨i', b'⟩, hm, rfl⟩
                      exact hni b' hm)
                    rw [hok''.tm i u hu, ← SV.same_den _ hsame, List.append_assoc, SV.den_append _ _ _ (by rw [hlen]; exact wfT_get hwf2.1 hv)]
                  · intro k i b' hk
                    obtain ⟨v, hv, hg⟩ := slotVals_get hvs2 k i b' hk
                    exact ⟨v, hv, hok''.tm i v hg⟩
                  · intro i c' hc' hni
                    obtain ⟨m, hm, hsame⟩ := keptF_get hkf i c' hc' hni
                    have := findH_facts hok''.hp hm
                    rw [hnth i (findH_mem hc'), ← sameL_den _ hsame, List.append_assoc, denL_append _ _ _ (by rw [hlen]; exact wfF_find hwf2.2.1 hc')] at this
                    exact this
                  · intro i hi
                    obtain ⟨c1, c2, h1, h2, h3⟩ := lensOk_get hlo i hi
                    refine ⟨c1, c2, h1, h2, h3, ?_⟩
                    have := findH_facts hok''.hp h2
                    rw [hnth i (findH_mem h1)] at this
                    exact this
                · exact hden.elim
              · exact hden.elim
            · intro e
              have hne : li.i ∉ c.live := fun hm => by rw [memN_iff.2 hm] at hlive; cases hlive
              have hk := hKx e
              have : ContC G _ c.live D ε (Kx e) (Q (Ex.exit' e)) := hk
              intro Λ' hl s2 δ wx' ws' X' a'' w'' hd' hok'' hden
              have hle : LE c.live Λ' Λ := by
                intro j hj vs' w3 hh
                have := hl j (by simp [hj]) vs' w3 hh
                have hji : ¬ j = li.i := fun e => hne (by rw [← e]; exact hj)
                simp only [if_neg hji] at this
                exact this
              have fin := (hk.later hle l) Λ' (LE.refl _ _) s2 δ wx' ws' X' a'' w'' hd' hok'' hden
              cases e <;> exact fin
          · exact h.elim
        · exact h.elim
end
end Go.Sx
