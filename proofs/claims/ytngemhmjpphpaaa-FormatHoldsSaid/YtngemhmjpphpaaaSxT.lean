/- Part T of a symbolic run of Go code by computation: its states, conditions and the proof that a condition that holds says what the function returns. No conditions of its own. -/
import Derived.Test.YtngemhmjpphpaaaSxS
set_option linter.unusedVariables false
set_option linter.unusedSimpArgs false
namespace Go.Sx
open Go.RowKit

theorem allB_intro : ∀ {bs : List Base} {φ : List Value → Prop}, (∀ l, Fits bs l → φ l) → allB bs φ
  | [], φ, h => h [] trivial
  | .int k :: bs, φ, h => fun n => allB_intro fun l hl => h _ ⟨⟨n, rfl⟩, hl⟩
  | .bool :: bs, φ, h => fun n => allB_intro fun l hl => h _ ⟨⟨n, rfl⟩, hl⟩
  | .slice :: bs, φ, h => fun a n c => allB_intro fun l hl => h _ ⟨⟨a, n, c, rfl⟩, hl⟩
  | .ptr :: bs, φ, h => fun n => allB_intro fun l hl => h _ ⟨⟨n, rfl⟩, hl⟩
  | .map :: bs, φ, h => fun n => allB_intro fun l hl => h _ ⟨⟨n, rfl⟩, hl⟩
  | .func :: bs, φ, h => fun v hv => allB_intro fun l hl => h _ ⟨hv, hl⟩
  | .any :: bs, φ, h => fun v hv => allB_intro fun l hl => h _ ⟨hv, hl⟩

/-- the function returns r and changes nothing that was there -/
structure Gives (P : Program) (f : Nat) (args : List Value) (w : World) (r : Value) : Prop where
  run : Calls P f args.toArray w (fun e w' => e = .returned r ∧ Same w w')
/-- the context of a function that changes nothing -/
abbrev G0 (P : Program) (w : World) : Ctx := { P := P, W0 := w, M := fun _ => False }
/-- the context of a function that changes at most the blocks M; with rc where it ranges over functions -/
abbrev GM (P : Program) (w : World) (M : Nat → Prop) (rc : Bool) : Ctx := { P := P, W0 := w, M := M, rc := rc }
abbrev Λ0 (w0 : World) (r : Value) : Nat → List Value → World → Prop := fun _ vs w => vs = [r] ∧ Same w0 w

section
variable {G : Ctx} {Λ : Nat → List Value → World → Prop} {ε : List Value} {wx ws : World} {X : Nat → Prop} {k k' : VC}

theorem gives {P : Program} (hmix : P.follows .mixedOrders = true) {f : Nat} {args : List SV} {ks : List Base} {V : VC} {c : Cfg} (hV : exFn c f args ks [] = V) (hP : c.P = P) (hlive : c.live = [0]) {w : World} {r : Value}
    (hf : Fits ks ε) (h : V.den (G0 P w) (Λ0 w r) ε w w (fun _ => False)) (hnr : c.ranged = false := by rfl) : Gives P f (denL ε args) w r := by
  have hb : BlkIn ε (keys []) = fun _ => False := by funext b; simp [BlkIn, keys]
  refine ⟨(exFn_sound (G := G0 P w) (Λ := Λ0 w r) (c := c) (heap := []) hmix hP (by rw [hV, hb]; exact h) hf hlive (fun hx => by rw [hnr] at hx; cases hx) trivial (Kept.refl _ _) (by simp [keys]) (by simp [keys]) (fun _ _ _ => rfl) (by simp [keys])).mono ?_⟩
  rintro e w' ⟨v, rfl, h1, h2⟩
  cases h1
  exact ⟨rfl, h2⟩

theorem den_leaf {i : Nat} {vs : List SV} {t : List Nat} {fs : Facts} {P : Program} {w : World} {r : Value} (h : denL ε vs = [r]) : (VC.leaf i vs t fs).den (G0 P w) (Λ0 w r) ε wx ws X :=
  fun w' hw => ⟨h, hw.base⟩
theorem den_ob {p : BE} (h : p.den ε = true) (hk : k.den G Λ ε wx ws X) : (VC.ob p k).den G Λ ε wx ws X := ⟨h, hk⟩
theorem den_split {b : BE} (h : b.den ε = true → k.den G Λ ε wx ws X) (h' : b.den ε = false → k'.den G Λ ε wx ws X) : (VC.split b k k').den G Λ ε wx ws X := ⟨h, h'⟩
theorem den_blk (h : ∀ b, wx.heap.size ≤ b → ws.heap.size ≤ b → G.W0.heap.size ≤ b → k.den G Λ (ε ++ [.pointer (some ⟨b, 0, none⟩)]) wx ws X) : (VC.blk k).den G Λ ε wx ws X := h
theorem den_start0 {t t' : List Nat} {fs : Facts} (h : ∀ w, Shown G ε t fs wx w → k.den G Λ ε w w (BlkIn ε t')) : (VC.start false t t' fs k).den G Λ ε wx ws X := h
/-- a drawn region in which what is read lies outside of the tracked blocks -/
theorem den_start1 {t t' : List Nat} {fs : Facts} (h : ∀ w, Shown G ε t fs wx w → k.den G Λ ε w w (BlkIn ε t')) : (VC.start true t t' fs k).den G Λ ε wx ws X :=
  fun w hw => ⟨BlkIn ε t', fun _ hb => hb, h w hw⟩

/-- a call that changes nothing -/
theorem den_call {f : Nat} {args : List SV} {bs : List Base} {rv : SV} {drawn : Bool} {t t' un : List Nat} {fs : Facts} {r : Value} (l0 : List Value) (hl : Fits bs l0) (hr : rv.den (ε ++ l0) = r)
    (hc : ∀ w, Shown G ε t fs wx w → Gives G.P f (denL ε args) w r)
    (hk : ∀ w w', Shown G ε t fs wx w → Same w w' → k.den G Λ (ε ++ l0) w' (if drawn then ws else w') (if drawn then X else BlkIn ε t')) :
    (VC.call f args bs rv [] drawn t t' un fs k).den G Λ ε wx ws X := by
  intro w hw
  refine ⟨fun l _ => l = l0, fun _ => False, (hc w hw).run.mono ?_, fun _ h => h.elim, allB_intro ?_⟩
  · rintro e w' ⟨rfl, h2⟩
    exact ⟨l0, hl, by rw [hr], rfl, h2, trivial⟩
  · intro l _ w' hl' hsame
    subst hl'
    have := hk w w' hw hsame
    cases drawn <;> exact this
theorem den_call_bool {f n : Nat} {args : List SV} {drawn : Bool} {t t' un : List Nat} {fs : Facts} {b : Bool}
    (hc : ∀ w, Shown G ε t fs wx w → Gives G.P f (denL ε args) w (.bool b)) (hn : nth (ε ++ [.bool b]) n = .bool b)
    (hk : ∀ w w', Shown G ε t fs wx w → Same w w' → k.den G Λ (ε ++ [.bool b]) w' (if drawn then ws else w') (if drawn then X else BlkIn ε t')) :
    (VC.call f args [Base.bool] (.bool (.var n)) [] drawn t t' un fs k).den G Λ ε wx ws X :=
  den_call [.bool b] ⟨⟨_, rfl⟩, trivial⟩ (by simp only [SV.den, BE.den, hn]; rfl) hc hk
theorem den_call_int {f n : Nat} {ik : IntKind} {args : List SV} {drawn : Bool} {t t' un : List Nat} {fs : Facts} {x : Int}
    (hc : ∀ w, Shown G ε t fs wx w → Gives G.P f (denL ε args) w (.int ik x)) (hn : nth (ε ++ [.int ik x]) n = .int ik x)
    (hk : ∀ w w', Shown G ε t fs wx w → Same w w' → k.den G Λ (ε ++ [.int ik x]) w' (if drawn then ws else w') (if drawn then X else BlkIn ε t')) :
    (VC.call f args [Base.int ik] (.int ik (.var n)) [] drawn t t' un fs k).den G Λ ε wx ws X :=
  den_call [.int ik x] ⟨⟨_, rfl⟩, trivial⟩ (by simp only [SV.den, IE.den, hn]; rfl) hc hk

theorem den_split_true {b : BE} (h : b.den ε = true) (hk : k.den G Λ ε wx ws X) : (VC.split b k k').den G Λ ε wx ws X := ⟨fun _ => hk, fun h' => by rw [h] at h'; cases h'⟩
theorem den_split_false {b : BE} (h : b.den ε = false) (hk : k'.den G Λ ε wx ws X) : (VC.split b k k').den G Λ ε wx ws X := ⟨fun h' => (by rw [h] at h'; cases h'), fun _ => hk⟩
theorem Gives.to {P : Program} {f : Nat} {args : List Value} {w : World} {r r' : Value} (h : Gives P f args w r) (e : r = r') : Gives P f args w r' := e ▸ h

/-- an operation of which only its law is known, that changes nothing and draws no order anew -/
def Does (P : Program) (op : Op) (type : TypeId) (vals : List (Operand × Value)) (w : World) (R : Value → World → Prop) : Prop :=
  ∀ ρ : Operand → Value, (∀ p ∈ vals, ρ p.1 = p.2) → RunsTo P (execOp ρ (bare op type)) w (fun v w' => R v w' ∧ Same w w')
theorem valsAt_mem {ρ : Operand → Value} : ∀ {l : List (Operand × SV)}, ValsAt ε ρ l → ∀ p ∈ l.map (fun p => (p.1, p.2.den ε)), ρ p.1 = p.2
  | [], _, p, h => by simp at h
  | (x, s) :: l, h, p, hp => by
    rcases List.mem_cons.1 hp with rfl | hp
    · exact h.1
    · exact valsAt_mem h.2 p hp
theorem den_gen {op : Op} {type : TypeId} {vals : List (Operand × SV)} {bs : List Base} {rv : SV} {drawn : Bool} {t t' un : List Nat} {fs : Facts} (R : World → List Value → World → Prop)
    (hc : ∀ w, Shown G ε t fs wx w → Does G.P op type (vals.map fun p => (p.1, p.2.den ε)) w (fun v w' => ∃ l, Fits bs l ∧ v = rv.den (ε ++ l) ∧ R w l w'))
    (hk : ∀ w l w', Shown G ε t fs wx w → Fits bs l → R w l w' → Same w w' → k.den G Λ (ε ++ l) w' (if drawn then ws else w') (if drawn then X else BlkIn ε t')) :
    (VC.gen op type vals bs rv [] drawn t t' un fs k).den G Λ ε wx ws X := by
  intro w hw
  refine ⟨R w, fun _ => False, ?_, fun _ h => h.elim, allB_intro ?_⟩
  · intro ρ hρ
    exact (hc w hw ρ (valsAt_mem hρ)).mono fun v w' ⟨⟨l, hl, hv, hR⟩, hs⟩ => ⟨l, hl, hv, hR, hs, trivial⟩
  · intro l hl w' hR hs
    have := hk w l w' hw hl hR hs
    cases drawn <;> exact this
/-- the function returns a value of which R is so, and changes nothing that was there -/
structure GivesR (P : Program) (f : Nat) (args : List Value) (w : World) (R : Value → World → Prop) : Prop where
  run : Calls P f args.toArray w (fun e w' => ∃ v, e = .returned v ∧ R v w' ∧ Same w w')
abbrev Λ1 (w0 : World) (R : Value → World → Prop) : Nat → List Value → World → Prop := fun _ vs w => ∃ v, vs = [v] ∧ R v w ∧ Same w0 w
theorem givesR {P : Program} (hmix : P.follows .mixedOrders = true) {f : Nat} {args : List SV} {ks : List Base} {V : VC} {c : Cfg} (hV : exFn c f args ks [] = V) (hP : c.P = P) (hlive : c.live = [0]) {w : World} {R : Value → World → Prop}
    (hf : Fits ks ε) (h : V.den (G0 P w) (Λ1 w R) ε w w (fun _ => False)) (hnr : c.ranged = false := by rfl) : GivesR P f (denL ε args) w R := by
  have hb : BlkIn ε (keys []) = fun _ => False := by funext b; simp [BlkIn, keys]
  refine ⟨(exFn_sound (G := G0 P w) (Λ := Λ1 w R) (c := c) (heap := []) hmix hP (by rw [hV, hb]; exact h) hf hlive (fun hx => by rw [hnr] at hx; cases hx) trivial (Kept.refl _ _) (by simp [keys]) (by simp [keys]) (fun _ _ _ => rfl) (by simp [keys])).mono ?_⟩
  rintro e w' ⟨v, rfl, v', h1, h2, h3⟩
  cases h1
  exact ⟨v, rfl, h2, h3⟩
/-- the function returns a value of which R is so, and changes at most the blocks M of what was there -/
structure Runs (P : Program) (f : Nat) (args : List Value) (w : World) (M : Nat → Prop) (R : Value → World → Prop) : Prop where
  run : Calls P f args.toArray w (fun e w' => ∃ v, e = .returned v ∧ R v w' ∧ Kept M w w')
abbrev ΛM (w0 : World) (M : Nat → Prop) (R : Value → World → Prop) : Nat → List Value → World → Prop := fun _ vs w => ∃ v, vs = [v] ∧ R v w ∧ Kept M w0 w
theorem runs {P : Program} (hmix : P.follows .mixedOrders = true) {f : Nat} {args : List SV} {ks : List Base} {heap : Facts} {V : VC} {c : Cfg} (hV : exFn c f args ks heap = V) (hP : c.P = P) (hlive : c.live = [0]) {w : World} {M : Nat → Prop} {R : Value → World → Prop}
    (hf : Fits ks ε) (hfa : FactsAt ε w heap) (hnd : (keys heap).Nodup) (hdj : ∀ i j, i ∈ keys heap → j ∈ keys heap → i ≠ j → blkOf (nth ε i) ≠ blkOf (nth ε j)) (hM : ∀ i ∈ keys heap, ∀ b, blkOf (nth ε i) = some b → M b)
    (h : V.den (GM P w M c.ranged) (ΛM w M R) ε w w (BlkIn ε (keys heap))) : Runs P f (denL ε args) w M R := by
  refine ⟨(exFn_sound (G := GM P w M c.ranged) (Λ := ΛM w M R) (c := c) (heap := heap) hmix hP (by rw [hV]; exact h) hf hlive (fun hx => ⟨hx, by simp only [Ctx.out, GM, hx]⟩) hfa (Kept.refl _ _) hnd hdj (fun _ _ _ => rfl) (fun i hi b hb _ => hM i hi b hb)).mono ?_⟩
  rintro e w' ⟨v, rfl, v', h1, h2, h3⟩
  cases h1
  exact ⟨v, rfl, h2, h3⟩
theorem Runs.mono {P : Program} {f : Nat} {args : List Value} {w : World} {M M' : Nat → Prop} {R R' : Value → World → Prop} (h : Runs P f args w M R) (hr : ∀ v w', R v w' → Kept M w w' → R' v w') (hm : ∀ b, b < w.heap.size → M b → M' b) : Runs P f args w M' R' :=
  ⟨Calls.mono h.run fun e w' ⟨v, h1, h2, h3⟩ => ⟨v, h1, hr v w' h2 h3, h3.mono hm⟩⟩
theorem Runs.gives {P : Program} {f : Nat} {args : List Value} {w : World} {r : Value} (h : Runs P f args w (fun _ => False) (fun v _ => v = r)) : Gives P f args w r :=
  ⟨Calls.mono h.run fun e w' ⟨v, h1, h2, h3⟩ => ⟨by rw [h1, h2], h3⟩⟩
theorem Runs.givesR {P : Program} {f : Nat} {args : List Value} {w : World} {R : Value → World → Prop} (h : Runs P f args w (fun _ => False) R) : GivesR P f args w R := ⟨h.run⟩
theorem GivesR.runs {P : Program} {f : Nat} {args : List Value} {w : World} {R : Value → World → Prop} (h : GivesR P f args w R) : Runs P f args w (fun _ => False) R := ⟨h.run⟩
theorem den_leafA {i : Nat} {vs : List SV} {t : List Nat} {fs : Facts} {P : Program} {w : World} {M : Nat → Prop} {rc : Bool} {R : Value → World → Prop} (v : Value) (h : denL ε vs = [v]) (hR : ∀ w', Shown (GM P w M rc) ε t fs wx w' → R v w') : (VC.leaf i vs t fs).den (GM P w M rc) (ΛM w M R) ε wx ws X :=
  fun w' hw => ⟨v, h, hR w' hw, hw.base⟩
theorem den_leafMA {i : Nat} {vs : List SV} {t : List Nat} {fs : Facts} {P : Program} {w : World} {M : Nat → Prop} {rc : Bool} {R : Value → World → Prop} (v : Value) (h : denL ε vs = [v]) (hR : ∀ w1 w', Shown (GM P w M rc) ε t fs wx w1 → Quiet w1 w' → R v w') : (VC.leafM i vs t fs).den (GM P w M rc) (ΛM w M R) ε wx ws X :=
  fun w1 hw w' hq hb => ⟨v, h, hR w1 w' hw hq, hb⟩
/-- a call of a function that changes at most the blocks M' -/
theorem den_callM {f : Nat} {args : List SV} {bs : List Base} {rv : SV} {touch : Facts} {drawn : Bool} {t t' un : List Nat} {fs : Facts} (M' : World → Nat → Prop) (R : World → List Value → World → Prop)
    (hF : ∀ w, Shown G ε t fs wx w → ∀ b, M' w b → b < w.heap.size → FpOk G drawn X ε un w b)
    (hc : ∀ w, Shown G ε t fs wx w → Runs G.P f (denL ε args) w (M' w) (fun v w' => ∃ l, Fits bs l ∧ v = rv.den (ε ++ l) ∧ R w l w' ∧ FactsAt (ε ++ l) w' touch))
    (hk : ∀ w l w', Shown G ε t fs wx w → Fits bs l → R w l w' → Kept (M' w) w w' → k.den G Λ (ε ++ l) w' (if drawn then ws else w') (if drawn then X else BlkIn ε t')) :
    (VC.call f args bs rv touch drawn t t' un fs k).den G Λ ε wx ws X := by
  intro w hw
  refine ⟨R w, M' w, Calls.mono (hc w hw).run ?_, hF w hw, allB_intro ?_⟩
  · rintro e w' ⟨v, rfl, ⟨l, hl, rfl, hR, hft⟩, h2⟩
    exact ⟨l, hl, rfl, hR, h2, hft⟩
  · intro l hl w' hR hsame
    have := hk w l w' hw hl hR hsame
    cases drawn <;> exact this
theorem den_pur {op : Op} {type : TypeId} {vals : List (Operand × SV)} {bs : List Base} {rv : SV} (l : List Value) (hl : Fits bs l) (hr : ∀ ρ, (∀ p ∈ vals.map (fun p => (p.1, p.2.den ε)), ρ p.1 = p.2) → ∀ w', Kept X ws w' → (execOp ρ (bare op type)).run G.P w' = .ok (.value (rv.den (ε ++ l))) w')
    (hk : k.den G Λ (ε ++ l) wx ws X) : (VC.pur op type vals bs rv k).den G Λ ε wx ws X :=
  ⟨l, hl, fun ρ hρ => hr ρ (valsAt_mem hρ), hk⟩
theorem GivesR.mono {P : Program} {f : Nat} {args : List Value} {w : World} {R R' : Value → World → Prop} (h : GivesR P f args w R) (hr : ∀ v w', R v w' → R' v w') : GivesR P f args w R' :=
  ⟨Calls.mono h.run fun e w' ⟨v, h1, h2, h3⟩ => ⟨v, h1, hr v w' h2, h3⟩⟩
theorem Gives.toR {P : Program} {f : Nat} {args : List Value} {w : World} {r : Value} (h : Gives P f args w r) : GivesR P f args w (fun v _ => v = r) :=
  ⟨Calls.mono h.run fun e w' ⟨h1, h2⟩ => ⟨r, h1, rfl, h2⟩⟩
theorem den_leafR {i : Nat} {vs : List SV} {t : List Nat} {fs : Facts} {P : Program} {w : World} {R : Value → World → Prop} (v : Value) (h : denL ε vs = [v]) (hR : ∀ w', Shown (G0 P w) ε t fs wx w' → R v w') : (VC.leaf i vs t fs).den (G0 P w) (Λ1 w R) ε wx ws X :=
  fun w' hw => ⟨v, h, hR w' hw, hw.base⟩
theorem den_callR {f : Nat} {args : List SV} {bs : List Base} {rv : SV} {drawn : Bool} {t t' un : List Nat} {fs : Facts} (R : World → List Value → World → Prop)
    (hc : ∀ w, Shown G ε t fs wx w → GivesR G.P f (denL ε args) w (fun v w' => ∃ l, Fits bs l ∧ v = rv.den (ε ++ l) ∧ R w l w'))
    (hk : ∀ w l w', Shown G ε t fs wx w → Fits bs l → R w l w' → Same w w' → k.den G Λ (ε ++ l) w' (if drawn then ws else w') (if drawn then X else BlkIn ε t')) :
    (VC.call f args bs rv [] drawn t t' un fs k).den G Λ ε wx ws X := by
  intro w hw
  refine ⟨R w, fun _ => False, Calls.mono (hc w hw).run ?_, fun _ h => h.elim, allB_intro ?_⟩
  · rintro e w' ⟨v, rfl, ⟨l, hl, rfl, hR⟩, h2⟩
    exact ⟨l, hl, rfl, hR, h2, trivial⟩
  · intro l hl w' hR hsame
    have := hk w l w' hw hl hR hsame
    cases drawn <;> exact this
/-- make([]T, n) -/
theorem den_make {t₀ e type : TypeId} {i : TypeInfo} {z : Value} {x y : Operand} {ex ey : IE} {kx ky : IntKind} {n : Nat} {drawn : Bool} {j : Nat} {t t' un : List Nat} {fs : Facts}
    (ht : G.P.underlying t₀ = some (.slice e)) (hi : G.P.info? e = some i) (hz : i.zero = some z) (hex : ex.den ε = n) (hey : ey.den ε = n) (hbytes : (i.bytes : Int) * n ≤ 281474976710656) (h63 : (n : Int) ≤ 9223372036854775807)
    (hj : ∀ v, nth (ε ++ [v]) j = v)
    (hk : ∀ w b w', Shown G ε t fs wx w → w.heap.size ≤ b → w'.heap[b]? = some (.cells (madeCells z.cells (n * i.size)) e (0, 0)) → Same w w' →
      k.den G Λ (ε ++ [.slice (some ⟨b, 0, none⟩) n n]) w' (if drawn then ws else w') (if drawn then X else BlkIn ε t')) :
    (VC.gen (.makeSlice t₀ x y) type [(x, .int kx ex), (y, .int ky ey)] [Base.slice] (.var j) [] drawn t t' un fs k).den G Λ ε wx ws X := by
  refine den_gen (fun w l w' => ∃ b, w.heap.size ≤ b ∧ w'.heap[b]? = some (.cells (madeCells z.cells (n * i.size)) e (0, 0)) ∧ l = [.slice (some ⟨b, 0, none⟩) n n]) ?_ ?_
  · intro w hw ρ hρ
    have h1 : ρ x = .int kx n := by have := hρ (x, .int kx (ex.den ε)) (by simp [SV.den]); rw [this, hex]
    have h2 : ρ y = .int ky n := by have := hρ (y, .int ky (ey.den ε)) (by simp [SV.den]); rw [this, hey]
    have hr := run_make (P := G.P) w t₀ e i z ht hi hz kx ky n n (by omega) (Int.le_refl _) hbytes h63
    simp only [Int.toNat_natCast] at hr
    have hs : Same w (w.alloc (.cells (madeCells z.cells (n * i.size)) e (0, 0))) := (Kept.refl _ w).alloc _
    refine .inl ⟨.slice (some ⟨w.heap.size, 0, none⟩) n n, w.alloc (.cells (madeCells z.cells (n * i.size)) e (0, 0)), .inl ?_, ⟨[.slice (some ⟨w.heap.size, 0, none⟩) n n], ⟨⟨_, _, _, rfl⟩, trivial⟩, ?_, w.heap.size, Nat.le_refl _, heap_alloc_new w _, rfl⟩, hs⟩
    · simp [execOp, bare, h1, h2, hr]
    · simp only [SV.den]; exact (hj _).symm
  · rintro w l w' hw hl ⟨b, h2, h3, rfl⟩ hs
    exact hk w b w' hw h2 h3 hs
theorem den_both (h : k.den G Λ ε wx ws X) (h' : k'.den G Λ ε wx ws X) : (VC.both k k').den G Λ ε wx ws X := ⟨h, h'⟩
theorem den_leaf' {i : Nat} {vs : List SV} {t : List Nat} {fs : Facts} (h : ∀ w, Shown G ε t fs wx w → Λ i (denL ε vs) w) : (VC.leaf i vs t fs).den G Λ ε wx ws X := h
theorem den_loop {i : Nat} {vs : List SV} {bs : List Base} {t t' : List Nat} {fs fs' : Facts} (I : List Value → World → Prop) (μ : List Value → World → Nat) (h0 : ∀ w, Shown G ε t fs wx w → I (denL ε vs) w)
    (hk : ∀ w l w', Shown G ε t fs wx w → Fits bs l → I l w' → Kept G.M G.W0 w' → FactsAt (ε ++ l) w' fs' →
      k.den G (fun j vs' w'' => if j = i then I vs' w'' ∧ μ vs' w'' < μ l w' else Λ j vs' w'') (ε ++ l) w' w' (BlkIn (ε ++ l) t')) :
    (VC.loop i vs bs t t' fs fs' k).den G Λ ε wx ws X :=
  fun w hw => ⟨I, μ, h0 w hw, allB_intro fun l hl w' hI hkept hf => hk w l w' hw hl hI hkept hf⟩
theorem den_load {a : SV} {bs : List Base} (l : List Value) (ad : Addr) (hl : Fits bs l) (ha : a.den ε = .pointer (some ad)) (hX : ¬ X ad.block) (hc : ∀ (j : Nat) v, l[j]? = some v → ws.cell? (ad.add j) = some v)
    (hk : k.den G Λ (ε ++ l) wx ws X) : (VC.load a bs k).den G Λ ε wx ws X := ⟨l, hl, ⟨ad, ha, hX, hc⟩, hk⟩
end

/-- the slice reads these cells, sz of them for each element -/
structure Reads (w : World) (s : Value) (sz n : Nat) (cells : List Value) : Prop where
  slice : ∃ a c, s = .slice a n c
  len : cells.length = n * sz
  cell : ∀ (j : Nat) x, cells[j]? = some x → ∃ ad, vaddr s = some ad ∧ w.cell? (ad.add j) = some x
theorem Reads.same {w w' : World} {s : Value} {sz n : Nat} {cells : List Value} (h : Reads w s sz n cells) (hk : Same w w') : Reads w' s sz n cells :=
  ⟨h.slice, h.len, fun j x hx => let ⟨ad, h1, h2⟩ := h.cell j x hx; ⟨ad, h1, hk.cell h2 (fun h => h)⟩⟩
theorem HasBlk.reads {w : World} {p : Value} {cells : List Value} (h : HasBlk w p cells) (lo n c sz : Nat) (hle : lo + n * sz ≤ cells.length) :
    Reads w (.slice (addO (vaddr p) lo) n c) sz n ((cells.drop lo).take (n * sz)) := by
  obtain ⟨b, hb, hc⟩ := hasBlk_cell h
  subst hb
  refine ⟨⟨_, _, rfl⟩, by simp; omega, fun j x hx => ⟨⟨b, lo, none⟩, ?_, ?_⟩⟩
  · show some ((Addr.mk b 0 none).add lo) = _
    rw [addr_add, Nat.zero_add]
  · rw [addr_add, hc]
    rw [List.getElem?_take] at hx
    split at hx
    · rw [List.getElem?_drop] at hx; exact hx
    · cases hx
end Go.Sx
