/- Part R of a symbolic run of Go code by computation: its states, conditions and the proof that a condition that holds says what the function returns. No conditions of its own. -/
import Derived.Test.YtngemhmjpphpaaaSxQ
set_option linter.unusedVariables false
set_option linter.unusedSimpArgs false
namespace Go.Sx
open Go.RowKit

section

theorem cont_of {G : Ctx} {D : List Deferred} {c : Cfg} {Λ : Nat → List Value → World → Prop} {live : List Nat} {s : St} {ε : List Value} {ws : World} {X : Nat → Prop} {K : St → VC} {KK : Act → World → Prop} (hd : s.drawn = false) (h : ContC G Λ live D ε K KK) :
    Cont G Λ D none s ε ws X K KK := by
  intro s' ε' wx' ws' X' a' w' hn hok hden
  obtain ⟨δ, rfl⟩ := hn.env
  exact h Λ (LE.refl _ _) s' δ wx' ws' X' a' w' (hn.drawn.trans hd) hok hden

theorem exC_sound : ∀ (n : Nat) (G : Ctx) (D : List Deferred) (hmix : G.P.follows .mixedOrders = true) (r : Option Nat) (nn : Nat) (c : Cfg) (code : Code) (K : St → VC) (Kx : Ex → St → VC) (Q : Exit → Act → World → Prop) (Λ : Nat → List Value → World → Prop)
    (s : St) (ε : List Value) (wx ws : World) (X : Nat → Prop) (a : Act) (w : World), c.P = G.P → (c.inRound = false → r = none) → (c.inRound = false → c.ranged = true → D ≠ [] ∧ G.rc = true ∧ G.out = G) → s.drawn = false → Ok G D s ε wx ws X a w → (exC c n code K Kx s).den G Λ ε wx ws X →
    ContC G Λ c.live D ε K (Q .normal) → (∀ e, ContC G Λ c.live D ε (Kx e) (Q (Ex.exit' e))) → code.wpIn (FF r) nn G.P Q a w := by
  intro n
  induction n with
  | zero => intro G D hmix r nn c code K Kx Q Λ s ε wx ws X a w _ _ _ _ _ h; exact h.elim
  | succ n ih =>
    intro G D hmix r nn c code K Kx Q Λ s ε wx ws X a w hP hR hD hd hok h hK hKx
    cases code with
    | skip => exact wpIn_skip (hK.now hd hok h)
    | label l => exact wpIn_label (hK.now hd hok h)
    | ret => exact wpIn_ret ((hKx .ret).now hd hok h)
    | exit id => exact wpIn_exit ((hKx (.exit id)).now hd hok h)
    | goto l => exact wpIn_goto ((hKx (.goto l)).now hd hok h)
    | refuse why => exact h.elim
    | rangeFunc f ps assign body =>
      simp only [exC] at h
      split at h
      · exact h.elim
      · rename_i hir
        have hir1 : c.inRound = false := by cases hx : c.inRound <;> simp [hx] at hir ⊢
        have hrg : c.ranged = true := by cases hx : c.ranged <;> simp [hx] at hir ⊢
        obtain rfl := hR hir1
        obtain ⟨hDne, hrc, hout⟩ := hD hir1 hrg
        split at h
        · split at h
          · rename_i ft _ _ ri al hri hsA
            obtain ⟨s0, hs0⟩ : ∃ s0, dropS s (c.dropR ft) = s0 := ⟨_, rfl⟩
            rw [hs0] at h
            have hok0 : Ok G D s0 ε wx ws X a w := hs0 ▸ hok.drop _
            have hd0 : s0.drawn = false := by rw [← hs0]; exact hd
            split at h
            · rename_i fv tk hfv htk
              split at h
              · rename_i ybs ysv hfr
                split at h
                · exact h.elim
                rename_i sb hsb
                split at h
                · rename_i hchk
                  simp only [Bool.and_eq_true, Bool.not_eq_true'] at hchk
                  obtain ⟨⟨⟨⟨⟨⟨⟨hwf, hwfv⟩, hwc⟩, hfc⟩, hwsa⟩, hps⟩, hty⟩, hlive⟩ := hchk
                  have hne : ri.i ∉ c.live := fun hm => by rw [memN_iff.2 hm] at hlive; cases hlive
                  have hwf2 := wfS_parts hwf
                  have hlen : ε.length = s0.ks.length := hok0.ks.length
                  have hps' : ps.toList.length = ysv.length := by simpa using Nat.eq_of_beq_eq_true hps
                  obtain ⟨g, caps, xs, I, Ft, hfden, hgo, hxs, hseq, hFt, hFtw, hI0, hround, hafter⟩ := h w hok.shown
                  have hfe := ev_den hok0 hfv
                  rw [hfden] at hfe
                  -- the state between rounds
                  obtain ⟨sa, hsa⟩ : ∃ sa : St, sa = betweenS s0 tk := ⟨_, rfl⟩
                  rw [← hsa] at hround hafter hfr hwsa hsb
                  have hkeys : keys sa.heap = keys s0.heap := by rw [hsa]; exact setAll_keys _ _
                  have hsaks : sa.ks.length = s0.ks.length + (anew s0.ks s0.heap s0.ks.length tk).1.length := by rw [hsa]; simp [betweenS]
                  have mkSa : ∀ {heap2 : Facts} {ε2 : List Value} {cl : List Value} {a' : Act} {w' : World}, cl = denL ε2 (contents heap2 tk) → Fits (anew s0.ks s0.heap s0.ks.length tk).1 cl → a'.tmps = a.tmps → Marks G D a'.defers w' → Kept G.M G.W0 w' →
                      (∀ i c, findH s0.heap i = some c → i ∉ tk → HasBlk w' (nth ε i) (denL ε c)) →
                      (∀ i ∈ tk, ∃ c c2, findH s0.heap i = some c ∧ findH heap2 i = some c2 ∧ c.length = c2.length ∧ HasBlk w' (nth ε i) (denL ε2 c2)) →
                      Ok G D sa (ε ++ cl) w' w' (BlkIn (ε ++ cl) (keys s0.heap)) a' w' := by
                    intro heap2 ε2 cl a' w' hcl hf hta hm hb h1 h2
                    rw [hsa]
                    exact hok0.loopTop hwf (W := []) (sl := []) (tk := tk) rfl (heap2 := heap2) (ε2 := ε2) (vs2 := []) (l := cl) hcl (a' := a') (w' := w') hf hm (by rw [hta]; exact hok0.ltm)
                      (fun i v hv _ _ => by rw [hta]; exact hok0.tm i v hv) (fun k i b hk => by simp at hk) hb h1 h2
                  have hW0 : G.W0.heap.size ≤ w.heap.size := hok0.base.size
                  refine wpIn_rangeFunc ?_
                  intro fn hfn
                  obtain ⟨rec, hrec⟩ : ∃ rec : LoopState → Option Code → Loop, rec = fun st pe => { state := st, pending := pe, fn, tmps := a.tmps, params := ps, assign, body, defers := w.heap.size } := ⟨_, rfl⟩
                  obtain ⟨W1, hW1⟩ : ∃ W1, (w.alloc (.deferred (some []))).alloc (.loop (rec .ready none)) = W1 := ⟨_, rfl⟩
                  have hL1 : W1.heap[w.heap.size + 1]? = some (.loop (rec .ready none)) := by
                    rw [← hW1]; have := World.alloc_heap_new (w.alloc (.deferred (some []))) (.loop (rec .ready none)); rwa [World.size_alloc] at this
                  have hK1 : W1.heap[w.heap.size]? = some (.deferred (some [])) := by
                    rw [← hW1]; exact (Below.heap_alloc _ _ _ (by simp)).trans (World.alloc_heap_new w _)
                  have hsame1 : Same w W1 := by rw [← hW1]; exact ((Kept.refl _ w).alloc _).alloc _
                  obtain ⟨a', ha'⟩ : ∃ a' : Act, a' = { a with defers := { target := .collected w.heap.size, args := #[] } :: a.defers } := ⟨_, rfl⟩
                  have hta : a'.tmps = a.tmps := by rw [ha']
                  refine ⟨w.heap.size + 1, [{ target := .collected w.heap.size, args := #[] }], W1, { target := .fn (.func g) caps.toArray, args := #[.func (.yield (w.heap.size + 1)) #[] #[]] }, W1, g,
                    #[.func (.yield (w.heap.size + 1)) #[] #[]] ++ caps.toArray, W1, ?_, ?_, ?_, ?_, fun hx => by simp [FF, Fence.wide] at hx, ?_⟩
                  · rw [← hW1, hrec]; exact run_enterLoop_outer _ _ _ _ _
                  · simp only [resolve, hfe]
                    simp [go_sem]
                  · intro f' hf'; exact trivial
                  · have eg := goFunc_run hgo
                    simp [invoke, go_sem, eg]
                  · show CallsIn (FF none) (nn - 1) G.P g _ W1 (rangePost (FF none) nn G.P (w.heap.size + 1) Q ([{ target := .collected w.heap.size, args := #[] }] ++ a.defers |> fun d => { a with defers := d }))
                    have hpost : rangePost (FF none) nn G.P (w.heap.size + 1) Q ([{ target := .collected w.heap.size, args := #[] }] ++ a.defers |> fun d => { a with defers := d }) = rangePost (FF none) nn G.P (w.heap.size + 1) Q a' := by rw [ha']; rfl
                    rw [hpost]
                    have hm1 : Marks G D a'.defers W1 := by
                      have hm0 : Marks G D a.defers W1 := hok0.defers.to fun _ b hb => hsame1.block b (by obtain ⟨o, ho, _⟩ := hb; exact (Array.getElem?_eq_some_iff.1 ho).1) (fun hx => hx)
                      rw [ha']
                      refine ⟨fun e => absurd e hDne, fun _ => hrc, fun d hd0 => ?_, ?_, hm0.recs⟩
                      · rcases List.mem_cons.1 hd0 with rfl | hd0
                        · exact ⟨w.heap.size, rfl, hW0, hK1⟩
                        · exact hm0.one d hd0
                      · refine List.Pairwise.cons (fun d hd0 b b' hb hb' e => ?_) hm0.nd
                        obtain ⟨b2, h1, _, h3⟩ := hok0.defers.one d hd0
                        rw [h1] at hb'
                        simp only [Target.collected.injEq] at hb hb'
                        have := (Array.getElem?_eq_some_iff.1 h3).1
                        omega
                    refine Calls.toFF (Calls.mono (hseq (w.heap.size + 1)
                      (fun k W => ∃ (cl : List Value) (w0 : World), I k cl w0 ∧ Fits (anew s0.ks s0.heap s0.ks.length tk).1 cl ∧ w.heap.size ≤ w0.heap.size ∧ Kept (fun b => b = w.heap.size + 1) w0 W ∧ (w.heap.size + 1 < w0.heap.size → IsRec w0 (w.heap.size + 1)) ∧
                        W.heap[w.heap.size + 1]? = some (.loop (rec .ready none)) ∧ Ok G D sa (ε ++ cl) W W (BlkIn (ε ++ cl) (keys s0.heap)) a' W)
                      (fun W => ∃ c, W.heap[w.heap.size + 1]? = some (.loop (rec .done (some c))) ∧ ∀ W', Kept (fun b => b = w.heap.size + 1) W W' → c.wpIn (FF none) nn G.P Q a' W') W1 ?_ ?_ ?_) ?_)
                    · -- what the iterator reads is as it was
                      rintro k Wa ⟨cl, w0, hI, _, hsz, hk, _⟩ b hb
                      have h1 := hFt k cl w0 hI b hb
                      have hlt := (hFtw b hb).1
                      exact (hk.block b (by omega) (by omega)).trans h1
                    · -- a round
                      rintro k y Wa Wb hy ⟨cl, w0, hI, hfl, hsz, hk0, hrc0, hL, hoka⟩ hsame
                      rw [List.getElem?_map] at hy
                      cases hx : xs[k]? with
                      | none => rw [hx] at hy; cases hy
                      | some x =>
                        rw [hx] at hy
                        simp only [Option.map_some, Option.some.injEq] at hy
                        subst hy
                        have hfx := hxs x (List.mem_of_getElem? hx)
                        have hnL : ¬ Ft (w.heap.size + 1) := fun hf => absurd (hFtw _ hf).1 (by omega)
                        have hLa : w.heap.size + 1 < Wa.heap.size := (Array.getElem?_eq_some_iff.1 hL).1
                        have hLb : Wb.heap[w.heap.size + 1]? = some (.loop (rec .ready none)) := (hsame.block _ hLa (fun hx => hx)).trans hL
                        have hcl : cl.length = (anew s0.ks s0.heap s0.ks.length tk).1.length := hfl.length
                        have hyl : ∀ A : List Value, A.length = sa.ks.length → denL (A ++ x) ysv = yvals G.P ri.tys x := fun A hA => by rw [← hP]; exact freshTys_den hfr hA hfx
                        have hsz2 : (yvals G.P ri.tys x).length = ps.size := by
                          rw [← hyl (ε ++ cl) (by rw [List.length_append, hlen, hcl, hsaks]), denL_length, ← hps']; simp
                        have hyr := run_yield (P := G.P) (args := (yvals G.P ri.tys x).toArray) hLb (by rw [hrec]; simp [hsz2])
                        rw [hrec] at hyr
                        refine ⟨fn, _, assign, body, hyr, RoundIn.ofFF (r := none) (n := nn) (roundIn_of_wpIn trivial (wp_simpA hsA ⟨Wb.putObj (w.heap.size + 1) (.loop (rec .busy none)), ?_, ?_⟩))⟩
                        · have := run_beginRound (P := G.P) hLb (by rw [hrec])
                          rw [hrec] at this ⊢
                          exact this
                        · have hkL : Kept (fun b => b = w.heap.size + 1) Wa (Wb.putObj (w.heap.size + 1) (.loop (rec .busy none))) := (hsame.mono fun _ _ h => h.elim).putObj fun _ => rfl
                          have hok2 := hoka.moveL hL (by omega) hkL
                          have hlt0 : ∀ i ∈ keys sa.heap, ∀ b, blkOf (nth (ε ++ cl) i) = some b → b < w0.heap.size ∧ ¬ Ft b := by
                            intro i hi b hb
                            rw [hkeys] at hi
                            obtain ⟨b', hb', hlt⟩ := facts_lt hok0.hp i hi
                            rw [nth_append _ _ _ (by rw [hlen]; exact wfF_keys hwf2.2.1 i hi)] at hb
                            have hbk := hb
                            rw [hb'] at hb
                            cases hb
                            exact ⟨by omega, fun hf => (hFtw _ hf).2.2 ⟨i, hi, hbk⟩⟩
                          rw [hkeys] at hok2
                          have hok3 := (hok2.toRound hlt0).ext hwsa hfx
                          have hok4 := putA_ok hsb (putSt_ok hps' hok3)
                          have htm : (ps.toList.zip (denL (ε ++ cl ++ x) ysv)).foldl (fun t p => t.setIfInBounds p.1 p.2) a'.tmps = (ps.zip (yvals G.P ri.tys x).toArray).foldl (fun t p => t.setIfInBounds p.1 p.2) a.tmps := by
                            rw [hyl (ε ++ cl) (by rw [List.length_append, hlen, hcl, hsaks]), hta, ← Array.foldl_toList, Array.toList_zip]
                          have hden := allB_elim (hround k x hx) hfl w0 (Wb.putObj (w.heap.size + 1) (.loop (rec .busy none))) hI
                            ((hk0.then hkL fun _ _ h => h).mono fun b hb e => by subst e; exact hrc0 hb) hok2.base ((factsAt_append (by rw [List.length_append, hlen, hcl, ← hsaks]; exact (wfS_parts hwsa).2.1)).2 hok2.hp)
                          have hok5 : Ok (G.round w0 (Wb.putObj (w.heap.size + 1) (.loop (rec .busy none))) Ft) [] sb (ε ++ cl ++ x) (Wb.putObj (w.heap.size + 1) (.loop (rec .busy none))) (Wb.putObj (w.heap.size + 1) (.loop (rec .busy none))) (BlkIn (ε ++ cl) (keys s0.heap))
                              (applyA al { tmps := (ps.zip (yvals G.P ri.tys x).toArray).foldl (fun t p => t.setIfInBounds p.1 p.2) a.tmps, defers := [] }) (Wb.putObj (w.heap.size + 1) (.loop (rec .busy none))) := by
                            rw [← htm]; exact hok4
                          have hwN : wfN (ε ++ cl).length (keys s0.heap) = true := by
                            rw [← hkeys, List.length_append, hlen, hcl, ← hsaks]; exact wfN_keys (wfS_parts hwsa).2.1
                          have hX : BlkIn (ε ++ cl) (keys s0.heap) = BlkIn (ε ++ cl ++ x) (keys s0.heap) := by
                            funext b; exact propext (blkIn_append hwN b).symm
                          rw [hX] at hok5
                          have hbusy : (Wb.putObj (w.heap.size + 1) (.loop (rec .busy none))).heap[w.heap.size + 1]? = some (.loop (rec .busy none)) := World.putObj_heap_same (Nat.lt_of_lt_of_le hLa hsame.size)
                          -- what holds behind the round's code, whichever way it is left
                          have behind : ∀ {s2 : St} {δ : List Value} {wx2 ws2 : World} {X2 : Nat → Prop} {a2 : Act} {w2 : World}, Ok (G.round w0 (Wb.putObj (w.heap.size + 1) (.loop (rec .busy none))) Ft) [] s2 δ wx2 ws2 X2 a2 w2 →
                              w2.heap[w.heap.size + 1]? = some (.loop (rec .busy none)) ∧ w.heap.size ≤ w2.heap.size ∧
                              ∀ (st : LoopState) (pe : Option Code), (w2.putObj (w.heap.size + 1) (.loop (rec st pe))).heap[w.heap.size + 1]? = some (.loop (rec st pe)) ∧
                              Kept (fun b => b = w.heap.size + 1) w2 (w2.putObj (w.heap.size + 1) (.loop (rec st pe))) ∧ Kept G.M G.W0 (w2.putObj (w.heap.size + 1) (.loop (rec st pe))) ∧
                              Kept (fun b => b < Wa.heap.size ∧ ¬ Ft b) Wb (w2.putObj (w.heap.size + 1) (.loop (rec st pe))) ∧ Marks G D a'.defers (w2.putObj (w.heap.size + 1) (.loop (rec st pe))) := by
                            intro s2 δ wx2 ws2 X2 a2 w2 hk2
                            have hb2 : w2.heap[w.heap.size + 1]? = some (.loop (rec .busy none)) := (hk2.defers.recs rfl _ ⟨_, hbusy, rfl⟩).trans hbusy
                            have hlt2 := (Array.getElem?_eq_some_iff.1 hb2).1
                            have hkb : Kept (fun b => b < w0.heap.size ∧ (b < G.W0.heap.size → G.M b) ∧ ¬ Ft b) (Wb.putObj (w.heap.size + 1) (.loop (rec .busy none))) w2 := hk2.base
                            refine ⟨hb2, by omega, fun st pe => ⟨World.putObj_heap_same hlt2, (Kept.refl _ _).putObj fun _ => rfl, ?_, ?_, ?_⟩⟩
                            · exact (hok2.base.then hkb fun i hi hm => hm.2.1 hi).putObj fun hlt => absurd hlt (by omega)
                            · refine Kept.putObj ?_ fun _ => ⟨hLa, hnL⟩
                              have hle := hk0.size
                              exact ((Kept.refl (fun b => b < Wa.heap.size ∧ ¬ Ft b) Wb).putObj fun _ => ⟨hLa, hnL⟩).then hkb fun i _ hm => ⟨Nat.lt_of_lt_of_le hm.1 hle, hm.2.2⟩
                            · have m1 := hok2.defers
                              have m2 : Marks G D a'.defers w2 := m1.to fun _ b hb => hk2.defers.recs rfl b hb
                              exact m2.toL hb2 (by omega) fun _ b _ hne => World.putObj_heap_other hne
                          refine ih (G.round w0 (Wb.putObj (w.heap.size + 1) (.loop (rec .busy none))) Ft) [] hmix (some (w.heap.size + 1)) nn { c with live := ri.i :: c.live, inRound := true } body _ _ _ _ _ (ε ++ cl ++ x) _ _ _ _ _ hP (fun hx => by cases hx) (fun hx => by cases hx) ((putA_drawn hsb).trans ((putSt_drawn _ _ _).trans (by rw [hsa]; exact hd0))) hok5 hden ?_ ?_
                          · -- its end
                            intro Λ' hl s2 δ wx2 ws2 X2 a2 w2 hd2 hk2 hden2
                            simp only at hden2
                            split at hden2
                            · rename_i hchk2
                              simp only [Bool.and_eq_true] at hchk2
                              obtain ⟨⟨⟨hwf2', hfc2⟩, hkf⟩, hlo⟩ := hchk2
                              have hleaf := hl ri.i (by simp) _ _ (hden2 w2 hk2.shown)
                              simp only [if_true] at hleaf
                              obtain ⟨hb2, hsz3, hbh⟩ := behind hk2
                              obtain ⟨h1, h2, h3, h4, h5⟩ := hbh .ready none
                              have her := run_endRound (P := G.P) none hb2
                              rw [hrec] at her
                              refine ⟨.bool true, w2.putObj (w.heap.size + 1) (.loop (rec .ready none)), by rw [hrec]; exact her, true, rfl, h4, ?_⟩
                              have hnth : ∀ i ∈ keys s0.heap, nth (ε ++ cl ++ x ++ δ) i = nth ε i := fun i hi => by rw [List.append_assoc, List.append_assoc]; exact nth_append _ _ _ (by rw [hlen]; exact wfF_keys hwf2.2.1 i hi)
                              refine ⟨denL (ε ++ cl ++ x ++ δ) (contents s2.heap tk), w2, hleaf, ?_, hsz3, h2, fun _ => ⟨_, hb2, rfl⟩, h1, ?_⟩
                              · rw [anew_bases]
                                exact fitsAll_den hk2.ks hfc2
                              · refine mkSa (heap2 := s2.heap) (ε2 := ε ++ cl ++ x ++ δ) rfl ?_ hta h5 h3 ?_ ?_
                                · rw [anew_bases]
                                  exact fitsAll_den hk2.ks hfc2
                                · intro i c' hc' hni
                                  obtain ⟨m, hm, hsm⟩ := keptF_get hkf i c' hc' hni
                                  have := (findH_facts hk2.hp hm).keptL hb2 h2
                                  rw [hnth i (findH_mem hc'), ← sameL_den _ hsm, List.append_assoc, List.append_assoc, denL_append _ _ _ (by rw [hlen]; exact wfF_find hwf2.2.1 hc')] at this
                                  exact this
                                · intro i hi
                                  obtain ⟨c1, c2, e1, e2, e3⟩ := lensOk_get hlo i hi
                                  refine ⟨c1, c2, e1, e2, e3, ?_⟩
                                  have := (findH_facts hk2.hp e2).keptL hb2 h2
                                  rw [hnth i (findH_mem e1)] at this
                                  exact this
                            · exact hden2.elim
                          · -- a jump out of it
                            intro e Λ' hl s2 δ wx2 ws2 X2 a2 w2 hd2 hk2 hden2
                            obtain ⟨hb2, hsz3, hbh⟩ := behind hk2
                            have go : ∀ W', Kept (fun b => b = w.heap.size + 1) w2 W' → Marks G D a'.defers W' → Q (Ex.exit' e) a' W' := by
                              intro W' hkW hmW
                              have hq : Quiet w2 W' := hkW.mono fun b hb e => by subst e; exact ⟨_, hb2, rfl⟩
                              have hb0 : Kept G.M G.W0 W' := by
                                have hkb : Kept (fun b => b < w0.heap.size ∧ (b < G.W0.heap.size → G.M b) ∧ ¬ Ft b) (Wb.putObj (w.heap.size + 1) (.loop (rec .busy none))) w2 := hk2.base
                                exact (hok2.base.then hkb fun i hi hm => hm.2.1 hi).then hkW fun i hi e => absurd hi (by omega)
                              have hdn := hden2 w2 hk2.shown W' hq hb0
                              have hGo : (G.round w0 (Wb.putObj (w.heap.size + 1) (.loop (rec .busy none))) Ft).out = G := by
                                conv => rhs; rw [← hout]
                                have h1 := congrArg Ctx.W0 hout
                                have h2 := congrArg Ctx.M hout
                                simp only [Ctx.out] at h1 h2
                                simp only [Ctx.out, Ctx.round, h1, h2]
                              rw [hGo] at hdn
                              have hle : LE c.live Λ' Λ := by
                                intro j hj vs' w3 hh
                                have := hl j (by simp [hj]) vs' w3 hh
                                have hji : ¬ j = ri.i := fun e => hne (by rw [← e]; exact hj)
                                simp only [if_neg hji] at this
                                exact this
                              refine hKx e Λ' hle { s2 with tmps := s0.tmps, t0 := [] } (cl ++ x ++ δ) W' W' _ a' W' hd2 ?_ (by rw [← List.append_assoc, ← List.append_assoc]; exact hdn)
                              rw [← List.append_assoc, ← List.append_assoc]
                              exact {
                                defers := hmW
                                ltm := by rw [hta]; exact hok0.ltm
                                tm := fun i v hv => by
                                  have hv' : getL s0.tmps i = some v := hv
                                  rw [hta, List.append_assoc, List.append_assoc, SV.den_append _ _ _ (by rw [hlen]; exact wfT_get hwf2.1 hv')]
                                  exact hok0.tm i v hv'
                                ks := hk2.ks
                                hp := by
                                  rw [factsAt_iff hk2.nd]
                                  intro i l hi
                                  exact (findH_facts hk2.hp hi).keptL hb2 hkW
                                nd := hk2.nd
                                dj := hk2.dj
                                base := hb0
                                kx := Kept.refl _ _
                                kws := fun _ => Kept.refl _ _
                                kwz := Nat.le_refl _
                                kX := fun _ i hi b hb _ => ⟨i, hi, hb⟩
                                kM := fun i hi b hb hlt => (hk2.kM i hi b hb (by have := hok2.base.size; exact Nat.lt_of_lt_of_le hlt this)).2.1 hlt
                                path := hk2.path }
                            have fin : ∀ c1 : Code, (∀ W', Q (Ex.exit' e) a' W' → c1.wpIn (FF none) nn G.P Q a' W') → ∃ v w', (Instr.endRound (w.heap.size + 1) (some c1)).run G.P w2 = .ok v w' ∧ ∃ v', Ending.returned v = .returned (.bool v') ∧ Kept (fun b => b < Wa.heap.size ∧ ¬ Ft b) Wb w' ∧
                                (if v' then ∃ (cl : List Value) (w0 : World), I (k + 1) cl w0 ∧ Fits (anew s0.ks s0.heap s0.ks.length tk).1 cl ∧ w.heap.size ≤ w0.heap.size ∧ Kept (fun b => b = w.heap.size + 1) w0 w' ∧ (w.heap.size + 1 < w0.heap.size → IsRec w0 (w.heap.size + 1)) ∧
                                    w'.heap[w.heap.size + 1]? = some (.loop (rec .ready none)) ∧ Ok G D sa (ε ++ cl) w' w' (BlkIn (ε ++ cl) (keys s0.heap)) a' w'
                                  else ∃ c, w'.heap[w.heap.size + 1]? = some (.loop (rec .done (some c))) ∧ ∀ W', Kept (fun b => b = w.heap.size + 1) w' W' → c.wpIn (FF none) nn G.P Q a' W') := by
                              intro c1 hc1
                              obtain ⟨h1, h2, h3, h4, h5⟩ := hbh .done (some c1)
                              have her := run_endRound (P := G.P) (some c1) hb2
                              rw [hrec] at her
                              refine ⟨.bool false, w2.putObj (w.heap.size + 1) (.loop (rec .done (some c1))), by rw [hrec]; exact her, false, rfl, h4, ?_⟩
                              simp only [Bool.false_eq_true, if_false]
                              refine ⟨c1, h1, fun W' hkW => hc1 W' (go W' (h2.then hkW fun _ _ h => h) ?_)⟩
                              exact h5.toL h1 (by omega) fun _ b hb hne => hkW.block b (by obtain ⟨o, ho, _⟩ := hb; exact (Array.getElem?_eq_some_iff.1 ho).1) hne
                            cases e with
                            | ret => exact fin .ret fun W' hq => wpIn_ret hq
                            | exit id => exact fin (.exit id) fun W' hq => wpIn_exit hq
                            | goto l' => exact fin (.goto l') fun W' hq => wpIn_goto hq
                    · -- at the start
                      refine ⟨denL ε (contents s0.heap tk), w, hI0, ?_, Nat.le_refl _, hsame1.mono fun _ _ h => h.elim, fun hx => by omega, hL1, ?_⟩
                      · rw [anew_bases]; exact fitsAll_den hok0.ks hfc
                      · refine mkSa (heap2 := s0.heap) (ε2 := ε) rfl (by rw [anew_bases]; exact fitsAll_den hok0.ks hfc) hta hm1 (hok0.base.then hsame1 fun _ _ h => h.elim) ?_ ?_
                        · intro i c' hc' _
                          obtain ⟨b, ty, hb, hh⟩ := findH_facts hok0.hp hc'
                          exact ⟨b, ty, hb, (hsame1.block b (Array.getElem?_eq_some_iff.1 hh).1 (fun hx => hx)).trans hh⟩
                        · intro i hi
                          obtain ⟨c', hc'⟩ := touchKeys_found htk i hi
                          obtain ⟨b, ty, hb, hh⟩ := findH_facts hok0.hp hc'
                          exact ⟨c', c', hc', hc', rfl, b, ty, hb, (hsame1.block b (Array.getElem?_eq_some_iff.1 hh).1 (fun hx => hx)).trans hh⟩
                    · -- behind the iterator
                      rintro e W3 ⟨v, rfl, Wz, hJ | hJ, hsame⟩
                      · obtain ⟨cl, w0, hI, hfl, hsz, hk0, hrc0, hL, hoka⟩ := hJ
                        have hL3 : W3.heap[w.heap.size + 1]? = some (.loop (rec .ready none)) := (hsame.block _ (Array.getElem?_eq_some_iff.1 hL).1 (fun hx => hx)).trans hL
                        have hend := run_endLoop (P := G.P) hL3 (by rw [hrec]; simp)
                        refine ⟨none, _, by rw [hrec] at hend; exact hend, ?_⟩
                        have hkL : Kept (fun b => b = w.heap.size + 1) Wz (W3.putObj (w.heap.size + 1) (.loop { rec .ready none with state := .exhausted })) := (hsame.mono fun _ _ h => h.elim).putObj fun _ => rfl
                        have hok2 := hoka.moveL hL (by omega) hkL
                        rw [List.length_map] at hI
                        have hden := allB_elim hafter hfl w0 _ hI ((hk0.then hkL fun _ _ h => h).mono fun b hb e => by subst e; exact hrc0 hb) hok2.base hok2.hp
                        rw [hkeys] at hok2
                        have := hK Λ (LE.refl _ _) sa cl _ _ _ a' _ (by rw [hsa]; exact hd0) hok2 hden
                        rw [hrec] at this
                        exact this
                      · obtain ⟨c1, hL, hpr⟩ := hJ
                        have hL3 : W3.heap[w.heap.size + 1]? = some (.loop (rec .done (some c1))) := (hsame.block _ (Array.getElem?_eq_some_iff.1 hL).1 (fun hx => hx)).trans hL
                        have hend := run_endLoop (P := G.P) hL3 (by rw [hrec]; simp)
                        rw [hrec] at hend
                        exact ⟨some c1, _, hend, hpr _ ((hsame.mono fun _ _ h => h.elim).putObj fun _ => rfl)⟩
                · exact h.elim
              · exact h.elim
            · exact h.elim
          · exact h.elim
        · exact h.elim
    | seq x y =>
      simp only [exC] at h
      split at h
      · refine wpIn_seq (ih G D hmix r nn c x _ Kx _ Λ s ε wx ws X a w hP hR hD hd hok h ?_ ?_)
        · intro Λ' hl s' δ wx' ws' X' a' w' hd' hok' hden
          exact ih G D hmix r nn c y K Kx Q Λ' s' (ε ++ δ) wx' ws' X' a' w' hP hR hD hd' hok' hden (hK.later hl δ) (fun e => (hKx e).later hl δ)
        · intro e
          have := hKx e
          cases e <;> exact this
      · rename_i li hli
        obtain ⟨s0, hs0⟩ : ∃ s0, dropS s (dropsJ c (firstReg y)) = s0 := ⟨_, rfl⟩
        rw [hs0] at h
        have hok0 : Ok G D s0 ε wx ws X a w := hs0 ▸ hok.drop _
        have hd0 : s0.drawn = false := by rw [← hs0]; exact hd
        split at h
        · rename_i tk htk
          split at h
          · rename_i hchk
            simp only [Bool.and_eq_true, Bool.not_eq_true'] at hchk
            obtain ⟨hwf, hlive⟩ := hchk
            have hlen : ε.length = s0.ks.length := hok0.ks.length
            have hwf2 := wfS_parts hwf
            obtain ⟨I, ha, hall⟩ := h
            have hfits : ∀ {s2 : St} {ε2 : List Value} {vs2 : List SV}, Fits s2.ks ε2 → fitsAll s2.ks (li.slots.map (·.2)) vs2 = true → fitsAll s2.ks (sbases s0.ks (contents s0.heap tk)) (contents s2.heap tk) = true →
                Fits (li.slots.map (·.2) ++ (anew s0.ks s0.heap (s0.ks.length + (li.slots.map (·.2)).length) tk).1) (denL ε2 (vs2 ++ contents s2.heap tk)) := by
              intro s2 ε2 vs2 h0 h1 h2
              rw [anew_bases, denL_app]
              exact (fitsAll_den h0 h1).append (fitsAll_den h0 h2)
            refine wpIn_seq (ih G D hmix r nn { c with live := li.i :: c.live } x _ Kx _ _ s0 ε wx ws X a w hP hR hD hd0 hok0 ha ?_ ?_)
            · intro Λ' hl s2 δ wx' ws' X' a'' w'' hd0' hok0'' hden
              simp only at hden
              split at hden
              · rename_i vs2 hvs2
                split at hden
                · rename_i hchk2
                  simp only [Bool.and_eq_true] at hchk2
                  obtain ⟨⟨⟨⟨⟨⟨hwf2', hfa2⟩, hfc2⟩, hkf⟩, hlo⟩, hkt⟩, hln⟩ := hchk2
                  have hleaf := hl li.i (by simp) _ _ (hden w'' hok0''.shown)
                  simp only [if_true] at hleaf
                  have hnth : ∀ i ∈ keys s0.heap, nth (ε ++ δ) i = nth ε i := fun i hi => nth_append _ _ _ (by rw [hlen]; exact wfF_keys hwf2.2.1 i hi)
                  have hfl := hfits (s2 := s2) hok0''.ks hfa2 hfc2
                  have hok' := hok0.loopTop hwf (W := writes x) (sl := li.slots) (tk := tk) rfl (heap2 := s2.heap) (ε2 := ε ++ δ) (vs2 := vs2) rfl (a' := a'') (w' := w'')
                    hfl hok0''.defers (by rw [hok0''.ltm, Nat.eq_of_beq_eq_true hln, putAll_length, forget_length])
                    (by
                      intro i v hv hni hput
                      obtain ⟨u, hu, hsame⟩ := keptT_get hkt i v hput (by
                        simp only [Nat.zero_add, List.mem_map]
                        rintro ⟨⟨i', b'⟩, hm, rfl⟩
                        exact hni b' hm)
                      rw [hok0''.tm i u hu, ← SV.same_den _ hsame, SV.den_append _ _ _ (by rw [hlen]; exact wfT_get hwf2.1 hv)])
                    (by
                      intro k i b' hk
                      obtain ⟨v, hv, hg⟩ := slotVals_get hvs2 k i b' hk
                      exact ⟨v, hv, hok0''.tm i v hg⟩)
                    hok0''.base
                    (by
                      intro i c' hc' hni
                      obtain ⟨m, hm, hsame⟩ := keptF_get hkf i c' hc' hni
                      have := findH_facts hok0''.hp hm
                      rw [hnth i (findH_mem hc'), ← sameL_den _ hsame, denL_append _ _ _ (by rw [hlen]; exact wfF_find hwf2.2.1 hc')] at this
                      exact this)
                    (by
                      intro i hi
                      obtain ⟨c1, c2, h1, h2, h3⟩ := lensOk_get hlo i hi
                      refine ⟨c1, c2, h1, h2, h3, ?_⟩
                      have := findH_facts hok0''.hp h2
                      rw [hnth i (findH_mem h1)] at this
                      exact this)
                  have hbody := allB_elim hall hfl w'' hleaf hok'.base hok'.hp
                  exact ih G D hmix r nn c y K Kx Q Λ _ (ε ++ denL (ε ++ δ) (vs2 ++ contents s2.heap tk)) w'' w'' _ a'' w'' hP hR hD (by exact hd0) hok' hbody (hK.later (LE.refl _ _) _) (fun e => (hKx e).later (LE.refl _ _) _)
                · exact hden.elim
              · exact hden.elim
            · intro e
              have hne : li.i ∉ c.live := fun hm => by rw [memN_iff.2 hm] at hlive; cases hlive
              have hk := hKx e
              have : ContC G _ c.live D ε (Kx e) (Q (Ex.exit' e)) := hk
              have fin : ContC G (fun j vs' w'' => if j = li.i then I vs' w'' else Λ j vs' w'') (li.i :: c.live) D ε (Kx e) (Q (Ex.exit' e)) := by
                intro Λ' hl s2 δ wx' ws' X' a'' w'' hd0' hok0'' hden
                have hle : LE c.live Λ' Λ := by
                  intro j hj vs' w3 hh
                  have := hl j (by simp [hj]) vs' w3 hh
                  have hji : ¬ j = li.i := fun e => hne (by rw [← e]; exact hj)
                  simp only [if_neg hji] at this
                  exact this
                exact this Λ' hle s2 δ wx' ws' X' a'' w'' hd0' hok0'' hden
              cases e <;> exact fin
          · exact h.elim
        · exact h.elim
    | cond x y z =>
      simp only [exC] at h
      split at h
      · rename_i p hx
        have hv := ev_den hok hx
        have go : ∀ q (s' : St), s'.drawn = false → Ok G D s' ε wx ws X a w → p.den ε = q → (exC c n (if q then y else z) K Kx s').den G Λ ε wx ws X → (Code.cond x y z).wpIn (FF r) nn G.P Q a w := by
          intro q s' hd' hok' hq h'
          refine wpIn_cond (t := q) (by rw [hv]; simp only [SV.den, hq]) (ih G D hmix r nn c _ K Kx Q Λ s' ε wx ws X a w hP hR hD hd' hok' h' hK hKx)
        have hp : ∀ q, p.den ε = q → ∀ b' r', (b', r') ∈ (p, q) :: s.path → b'.den ε = r' := by
          intro q hq b' r' hm
          simp only [List.mem_cons, Prod.mk.injEq] at hm
          rcases hm with ⟨rfl, rfl⟩ | hm
          · exact hq
          · exact hok.path b' r' hm
        split at h
        · rename_i hr; exact go true s hd hok (known_sound hok.path hr) h
        · rename_i hr; exact go false s hd hok (known_sound hok.path hr) h
        · cases hq : p.den ε with
          | true => exact go true { s with path := (p, true) :: s.path } hd (hok.addPath _ (hp _ hq)) hq (h.1 hq)
          | false => exact go false { s with path := (p, false) :: s.path } hd (hok.addPath _ (hp _ hq)) hq (h.2 hq)
      · exact h.elim
    | block id b =>
      refine wpIn_block (ih G D hmix r nn c b K _ _ Λ s ε wx ws X a w hP hR hD hd hok h hK ?_)
      intro e
      cases e with
      | exit j =>
        intro Λ' hl s' δ wx' ws' X' a' w' hd' hok' hden
        show (if j = id then Q .normal a' w' else Q (.exit j) a' w')
        by_cases hj : Nat.beq j id = true
        · simp only [hj, if_true] at hden
          rw [if_pos (Nat.eq_of_beq_eq_true hj)]
          exact hK Λ' hl s' δ wx' ws' X' a' w' hd' hok' hden
        · simp only [hj] at hden
          rw [if_neg (by simpa using hj)]
          exact hKx (.exit j) Λ' hl s' δ wx' ws' X' a' w' hd' hok' hden
      | ret => exact hKx .ret
      | goto l => exact hKx (.goto l)
    | region id ops draw =>
      simp only [exC] at h
      split at h
      · rename_i hnd
        have hnd' : ∀ (i : Nat) (o : Oper), ops[i]? = some o → noDefer o = true := fun i o ho => List.all_eq_true.1 hnd o (by
          have := Array.mem_of_getElem? ho
          exact Array.mem_toList_iff.2 this)
        split at h
        · rename_i hdr
          subst hdr
          split at h
          · rename_i hwf
            simp only [Bool.and_eq_true] at hwf
            obtain ⟨hwf, hns⟩ := hwf
            have hwf2 := wfS_parts hwf
            have hlen : ε.length = s.ks.length := hok.ks.length
            let wd : World := { w with drawn := w.drawn + 1 }
            have hfact : FactsAt ε wd s.heap := by
              rw [factsAt_iff hok.nd]
              intro i l hi
              have h9 : HasBlk w (nth ε i) (denL ε l) := findH_facts hok.hp hi
              exact h9
            have hsh : Shown G ε s.t0 s.heap wx wd := ⟨⟨hok.kx.os, hok.kx.tape, hok.kx.output, hok.kx.size, hok.kx.block⟩, ⟨hok.base.os, hok.base.tape, hok.base.output, hok.base.size, hok.base.block⟩, hfact, hok.dj⟩
            have h1 := h wd hsh
            simp only [if_true] at h1
            obtain ⟨X1, hX1, h1⟩ := h1
            have hok1 : Ok G D { s with drawn := true, t0 := [] } ε wd wd X1 a wd := {
              defers := hok.defers.to fun _ _ _ => rfl
              ltm := hok.ltm
              tm := hok.tm
              ks := hok.ks
              hp := hfact
              nd := hok.nd
              dj := hok.dj
              base := hsh.base
              kx := Kept.refl _ _
              kws := fun _ => Kept.refl _ _
              kwz := Nat.le_refl _
              kX := fun _ i hi b hb _ => hX1 b ⟨i, hi, hb⟩
              kM := hok.kM
              path := hok.path }
            refine wpIn_region_any hmix (anyG_wpAnyIn hnd' _ _ _ _ (exDrawR_sound (s0 := { s with drawn := true, t0 := [] }) (ε0 := ε) hP hns ?_ { s with drawn := true, t0 := [] } ε wd a wd ?_ hok1 h1))
            · intro s' ε' wx' a' w' hi hok' hden
              obtain ⟨δ, rfl⟩ := hi.nx.env
              have hok2 : Ok G D { s' with drawn := false } (ε ++ δ) wx' wd X1 a' w' := { hok' with kws := fun h => (by cases h), kX := fun h => (by cases h) }
              exact hK Λ (LE.refl _ _) { s' with drawn := false } δ wx' wd X1 a' w' rfl hok2 hden
            · refine ⟨Nx.refl _ _ _ _ _, by rw [hlen]; exact hwf2.2.1, ?_, rfl⟩
              intro i hi
              split at hi
              · simp at hi
              · rw [hlen]; exact blt_true (wfF_keys hwf2.2.1 i (List.mem_filter.1 hi).1)
          · exact h.elim
        · rename_i hdr
          have hdr' : draw = false := by simpa using hdr
          subst hdr'
          refine wpIn_region (seqG_wpOpsIn hnd' _ _ _ ?_)
          have := exSeq_sound (c := c) (K := K) (KK := Q .normal) (Λ := Λ) (ops := ops) (D := D) hP ops.toList 0 (fun k => by simp) hok h (cont_of (c := c) hd hK)
          simpa using this
      · exact h.elim
    | scope b =>
      simp only [exC] at h
      split at h
      · exact h.elim
      · rename_i hir
        have hr0 : r = none := hR (by simpa using hir)
        subst hr0
        rw [FF_none]
        refine wpIn_wide.2 (wp_scope_once ?_)
        have key := ih G D hmix none nn c b K _ (fun e a w => match e with
          | .goto l => ∃ rest, findLabel b l = some rest ∧ rest.wp G.P (fun e a w => match e with | .goto _ => False | e => Q e a w) a w
          | e => Q e a w) Λ s ε wx ws X a w hP hR hD hd hok h hK ?_
        · rw [FF_none] at key
          exact wpIn_wide.1 key
        · intro e
          cases e with
          | ret => exact hKx .ret
          | exit id => exact hKx (.exit id)
          | goto l =>
            intro Λ' hl s' δ wx' ws' X' a' w' hd' hok' hden
            simp only [Ex.exit'] at hden ⊢
            split at hden
            · rename_i rest hrest
              refine ⟨rest, hrest, ?_⟩
              have k2 := ih G D hmix none nn c rest K _ (fun e a w => match e with | .goto _ => False | e => Q e a w) Λ' s' (ε ++ δ) wx' ws' X' a' w' hP hR hD hd' hok' hden (hK.later hl δ) ?_
              · rw [FF_none] at k2
                exact wpIn_wide.1 k2
              · intro e
                cases e with
                | ret => exact (hKx .ret).later hl δ
                | exit id => exact (hKx (.exit id)).later hl δ
                | goto l' =>
                  intro Λ'' hl' s'' δ' wx'' ws'' X'' a'' w'' hd'' hok'' hden''
                  exact hden''.elim
            · exact hden.elim
    | loop b =>
      simp only [exC] at h
      split at h
      · exact h.elim
      · rename_i li hli
        obtain ⟨s0, hs0⟩ : ∃ s0, dropS s (dropsOf c (firstReg b)) = s0 := ⟨_, rfl⟩
        rw [hs0] at h
        have hok0 : Ok G D s0 ε wx ws X a w := hs0 ▸ hok.drop _
        have hd0 : s0.drawn = false := by rw [← hs0]; exact hd
        split at h
        · rename_i vs tk hvs htk
          split at h
          · rename_i hchk
            simp only [Bool.and_eq_true, Bool.not_eq_true'] at hchk
            obtain ⟨⟨⟨⟨⟨hwf, hwl⟩, hwc⟩, hfa⟩, hfc⟩, hlive⟩ := hchk
            have hlen : ε.length = s0.ks.length := hok0.ks.length
            have hwf2 := wfS_parts hwf
            obtain ⟨I, μ, hI, hall⟩ := h w hok.shown
            have hfits : ∀ {s2 : St} {ε2 : List Value} {vs2 : List SV}, Fits s2.ks ε2 → fitsAll s2.ks (li.slots.map (·.2)) vs2 = true → fitsAll s2.ks (sbases s0.ks (contents s0.heap tk)) (contents s2.heap tk) = true →
                Fits (li.slots.map (·.2) ++ (anew s0.ks s0.heap (s0.ks.length + (li.slots.map (·.2)).length) tk).1) (denL ε2 (vs2 ++ contents s2.heap tk)) := by
              intro s2 ε2 vs2 h0 h1 h2
              rw [anew_bases, denL_app]
              exact (fitsAll_den h0 h1).append (fitsAll_den h0 h2)
            -- at the entry
            have hentry := hok0.loopTop hwf (W := writes b) (sl := li.slots) (tk := tk) rfl (heap2 := s0.heap) (ε2 := ε) (vs2 := vs) rfl (a' := a) (w' := w)
              (hfits (s2 := s0) hok0.ks hfa hfc) hok0.defers hok0.ltm (fun i v hv _ _ => hok0.tm i v hv)
              (fun k i b' hk => by
                obtain ⟨v, hv, hg⟩ := slotVals_get hvs k i b' hk
                exact ⟨v, hv, hok0.tm i v hg⟩)
              hok0.base (fun i c' hc' _ => findH_facts hok0.hp hc')
              (fun i hi => by
                obtain ⟨c', hc'⟩ := touchKeys_found htk i hi
                exact ⟨c', c', hc', hc', rfl, findH_facts hok0.hp hc'⟩)
            refine wpIn_loop_ghost (fun k a' w' => ∃ l, Fits (li.slots.map (·.2) ++ (anew s0.ks s0.heap (s0.ks.length + (li.slots.map (·.2)).length) tk).1) l ∧ I l w' ∧ μ l w' = k ∧
              Ok G D { s0 with tmps := putAll (forget s0.tmps (writes b)) s0.ks.length li.slots, heap := setAll s0.heap (anew s0.ks s0.heap (s0.ks.length + (li.slots.map (·.2)).length) tk).2, ks := s0.ks ++ (li.slots.map (·.2) ++ (anew s0.ks s0.heap (s0.ks.length + (li.slots.map (·.2)).length) tk).1), t0 := [] } (ε ++ l) w' w' (BlkIn (ε ++ l) (keys s0.heap)) a' w')
              (μ (denL ε (vs ++ contents s0.heap tk)) w) ⟨_, hfits (s2 := s0) hok0.ks hfa hfc, hI, rfl, hentry⟩ ?_
            rintro k a' w' ⟨l, hfl, hIl, rfl, hok0'⟩
            have hbody := allB_elim hall hfl w' hIl hok0'.base hok0'.hp
            refine ih G D hmix r nn { c with live := li.i :: c.live } b _ Kx _ _ _ (ε ++ l) w' w' _ a' w' hP hR hD ?_ hok0' hbody ?_ ?_
            · exact hd0
            · -- the end of the round
              intro Λ' hl s2 δ wx' ws' X' a'' w'' hd0' hok0'' hden
              simp only at hden
              split at hden
              · rename_i vs2 hvs2
                split at hden
                · rename_i hchk2
                  simp only [Bool.and_eq_true] at hchk2
                  obtain ⟨⟨⟨⟨⟨⟨hwf2', hfa2⟩, hfc2⟩, hkf⟩, hlo⟩, hkt⟩, hln⟩ := hchk2
                  have hleaf := hl li.i (by simp) _ _ (hden w'' hok0''.shown)
                  simp only [if_true] at hleaf
                  have hεl : (ε ++ l ++ δ).length ≥ ε.length := by simp
                  have hnth : ∀ i ∈ keys s0.heap, nth (ε ++ l ++ δ) i = nth ε i := fun i hi => by rw [List.append_assoc]; exact nth_append _ _ _ (by rw [hlen]; exact wfF_keys hwf2.2.1 i hi)
                  refine ⟨μ (denL (ε ++ l ++ δ) (vs2 ++ contents s2.heap tk)) w'', hleaf.2, _, hfits (s2 := s2) hok0''.ks hfa2 hfc2, hleaf.1, rfl, ?_⟩
                  refine hok0.loopTop hwf (W := writes b) (sl := li.slots) (tk := tk) rfl (heap2 := s2.heap) (ε2 := ε ++ l ++ δ) (vs2 := vs2) rfl (a' := a'') (w' := w'')
                    (hfits (s2 := s2) hok0''.ks hfa2 hfc2) hok0''.defers (by rw [hok0''.ltm, Nat.eq_of_beq_eq_true hln, putAll_length, forget_length]) ?_ ?_ hok0''.base ?_ ?_
                  · intro i v hv hni hput
                    obtain ⟨u, hu, hsame⟩ := keptT_get hkt i v hput (by
                      simp only [Nat.zero_add, List.mem_map]
                      rintro ⟨⟨i', b'⟩, hm, rfl⟩
                      exact hni b' hm)
                    rw [hok0''.tm i u hu, ← SV.same_den _ hsame, List.append_assoc, SV.den_append _ _ _ (by rw [hlen]; exact wfT_get hwf2.1 hv)]
                  · intro k i b' hk
                    obtain ⟨v, hv, hg⟩ := slotVals_get hvs2 k i b' hk
                    exact ⟨v, hv, hok0''.tm i v hg⟩
                  · intro i c' hc' hni
                    obtain ⟨m, hm, hsame⟩ := keptF_get hkf i c' hc' hni
                    have := findH_facts hok0''.hp hm
                    rw [hnth i (findH_mem hc'), ← sameL_den _ hsame, List.append_assoc, denL_append _ _ _ (by rw [hlen]; exact wfF_find hwf2.2.1 hc')] at this
                    exact this
                  · intro i hi
                    obtain ⟨c1, c2, h1, h2, h3⟩ := lensOk_get hlo i hi
                    refine ⟨c1, c2, h1, h2, h3, ?_⟩
                    have := findH_facts hok0''.hp h2
                    rw [hnth i (findH_mem h1)] at this
                    exact this
                · exact hden.elim
              · exact hden.elim
            · intro e
              have hne : li.i ∉ c.live := fun hm => by rw [memN_iff.2 hm] at hlive; cases hlive
              have hk := hKx e
              have : ContC G _ c.live D ε (Kx e) (Q (Ex.exit' e)) := hk
              intro Λ' hl s2 δ wx' ws' X' a'' w'' hd0' hok0'' hden
              have hle : LE c.live Λ' Λ := by
                intro j hj vs' w3 hh
                have := hl j (by simp [hj]) vs' w3 hh
                have hji : ¬ j = li.i := fun e => hne (by rw [← e]; exact hj)
                simp only [if_neg hji] at this
                exact this
              have fin := (hk.later hle l) Λ' (LE.refl _ _) s2 δ wx' ws' X' a'' w'' hd0' hok0'' hden
              cases e <;> exact fin
          · exact h.elim
        · exact h.elim
end
end Go.Sx
