/- One call on both sides: what stays and what turns. No conditions beyond those that each theorem names. -/
import Derived.Test.YtfjlnfgbfclgbaaP
import Derived.Test.YtfjlnfgbfclgbaaTH
set_option maxRecDepth 100000
set_option maxHeartbeats 4000000
set_option linter.unusedVariables false
set_option linter.unusedSimpArgs false
namespace Go.Proofs.Ytfjlnfgbfclgbaa
open Go.Sx

def In (Q : Nat → Prop) (s : Value) : Prop := ∀ ad, vaddr s = some ad → Q ad.block
structure Wf (e : Ev) : Prop where
  lim : 1 ≤ e.lim ∧ e.lim ≤ 16
  cfg : 0 ≤ e.cfg ∧ e.cfg < 4294967296
  R : (e.R.length : Int) ≤ e.lim
  L : ∀ n ∈ e.L, n.Ok ∧ n.valid = true
  B : Bytes e.B
theorem valid8 {n : Ntc} (h : n.valid = true) : n.t < 8 := by
  unfold Ntc.valid validI at h
  split at h
  · omega
  split at h
  · omega
  split at h
  · omega
  split at h
  · omega
  · cases h
theorem reqC_zero {e : Ev} {id : Int} (h : reqC e id = 0) : (e.R.length : Int) ≠ e.lim := by
  unfold reqC at h
  split at h
  · cases h
  · split at h
    · cases h
    · assumption
theorem Wf.req {e : Ev} (h : Wf e) (id : Int) : Wf (reqE e id) := by
  unfold reqE
  split
  · rename_i h0
    have := reqC_zero h0
    have := h.R
    exact ⟨h.lim, h.cfg, by simp; omega, h.L, h.B⟩
  · exact h
theorem Wf.raise {e : Ev} (h : Wf e) {n : Ntc} (hn : n.Ok) : Wf (raiseE e n) := by
  unfold raiseE
  split
  · rename_i h0
    have hv : n.valid = true := by
      unfold raiseB at h0
      simp only [Bool.and_eq_true] at h0
      exact h0.1.1
    refine ⟨h.lim, h.cfg, h.R, fun x hx => ?_, h.B⟩
    rcases List.mem_append.1 hx with hx | hx
    · exact h.L x hx
    · simp only [List.mem_singleton] at hx
      subst hx
      exact ⟨hn, hv⟩
  · exact h
theorem dl_wf : ∀ (L : List Ntc) (R : List Int) (B : Int → Option Int), (∀ n ∈ L, n.Ok ∧ n.valid = true) → Bytes B → (∀ n ∈ (dl L R B).left, n ∈ L) ∧ (dl L R B).R.length ≤ R.length ∧ Bytes (dl L R B).B ∧ (dl L R B).left.length ≤ L.length
  | [], R, B, _, hB => ⟨fun n h => by simp [dl] at h, Nat.le_refl _, hB, Nat.le_refl _⟩
  | x :: L, [], B, hL, hB => by
    rw [dl_nil]
    exact ⟨fun n h => h, Nat.le_refl _, hB, Nat.le_refl _⟩
  | x :: L, r :: R, B, hL, hB => by
    by_cases hb : (B x.t).isSome = true
    · obtain ⟨q1, q2, q3, q4⟩ := dl_wf L (r :: R) B (fun n hn => hL n (List.mem_cons_of_mem _ hn)) hB
      rw [dl_cons_b _ _ _ _ _ hb]
      refine ⟨fun n hn => ?_, q2, q3, by simpa using q4⟩
      rcases List.mem_cons.1 hn with rfl | hn
      · exact List.mem_cons_self ..
      · exact List.mem_cons_of_mem _ (q1 n hn)
    · have hx := (hL x (List.mem_cons_self ..)).1
      obtain ⟨q1, q2, q3, q4⟩ := dl_wf L R (upd B x.t x.p) (fun n hn => hL n (List.mem_cons_of_mem _ hn)) (fun k v hkv => by
        unfold upd at hkv
        split at hkv
        · rename_i e
          cases hkv
          have := hx.t
          have := hx.p
          subst e
          omega
        · exact hB k v hkv)
      rw [dl_cons_f _ _ _ _ _ (by simpa using hb)]
      exact ⟨fun n hn => List.mem_cons_of_mem _ (q1 n hn), Nat.le_succ_of_le q2, q3, Nat.le_succ_of_le q4⟩
def dlE (e : Ev) : Ev := { e with R := (dl e.L e.R e.B).R, L := (dl e.L e.R e.B).left, B := (dl e.L e.R e.B).B }
theorem Wf.dl {e : Ev} (h : Wf e) : Wf (dlE e) := by
  obtain ⟨q1, q2, q3, q4⟩ := dl_wf e.L e.R e.B h.L h.B
  have := h.R
  exact ⟨h.lim, h.cfg, by show ((Go.Proofs.Ytfjlnfgbfclgbaa.dl e.L e.R e.B).R.length : Int) ≤ e.lim; omega, fun n hn => h.L n (q1 n hn), q3⟩
def readE (e : Ev) (p : Int) : Ev := { e with B := readB e.B p }
theorem Wf.read {e : Ev} (h : Wf e) (p : Int) : Wf (readE e p) := by
  refine ⟨h.lim, h.cfg, h.R, h.L, fun k v hkv => ?_⟩
  have hkv' : readB e.B p k = some v := hkv
  unfold readB at hkv'
  cases hb : e.B k with
  | none => rw [hb] at hkv'; cases hkv'
  | some x =>
    rw [hb] at hkv'
    simp only at hkv'
    split at hkv'
    · cases hkv'
    · cases hkv'
      exact h.B k v hb
theorem Wf.config {e : Ev} (h : Wf e) {c : Int} (hc : 0 ≤ c ∧ c < 4294967296) : Wf (cfgE e c) :=
  ⟨h.lim, hc, h.R, fun n hn => h.L n (List.mem_filter.1 hn).1, h.B⟩
theorem Wf.abort {e : Ev} (h : Wf e) (id : Int) : Wf (abE e id) := by
  refine ⟨h.lim, h.cfg, ?_, h.L, h.B⟩
  have := h.R
  have : (e.R.erase id).length ≤ e.R.length := List.length_erase_le
  show ((e.R.erase id).length : Int) ≤ e.lim
  omega
theorem Wf.reset {e : Ev} (h : Wf e) : Wf (resetE e) :=
  ⟨h.lim, ⟨Int.le_refl 0, by show (0 : Int) < 4294967296; omega⟩, by show ((0 : Nat) : Int) ≤ e.lim; have := h.lim; omega, fun n hn => by simp [resetE] at hn, fun k v hkv => by cases hkv⟩

/-- a call: kind, id, notice, configuration -/
structure Cl where
  k : Int
  id : Int
  n : Ntc
  c : Int
structure Cl.Ok (a : Cl) : Prop where
  n : a.n.Ok
  c : 0 ≤ a.c ∧ a.c < 4294967296
def Cl.cells (a : Cl) : List Value := [.int .i64 a.k, .int .u16 a.id, .int .u8 a.n.t, .int .u8 a.n.i, .int .u8 a.n.p, .int .u32 a.c]
abbrev Cl.v (a : Cl) : Value := .agg a.cells.toArray
def stepE (e : Ev) (a : Cl) : Ev :=
  if a.k = 0 then reqE e a.id else if a.k = 1 then raiseE e a.n else if a.k = 2 then dlE e else if a.k = 3 then readE e a.n.p else if a.k = 4 then cfgE e a.c else if a.k = 5 then abE e a.id else if a.k = 6 then resetE e else e
theorem Wf.step {e : Ev} (h : Wf e) {a : Cl} (ha : a.Ok) : Wf (stepE e a) := by
  unfold stepE
  split
  · exact h.req _
  split
  · exact h.raise ha.n
  split
  · exact h.dl
  split
  · exact h.read _
  split
  · exact h.config ha.c
  split
  · exact h.abort _
  split
  · exact h.reset
  · exact h
theorem reqE_L (e : Ev) (id : Int) : (reqE e id).L = e.L := by unfold reqE; split <;> rfl
theorem raiseE_L (e : Ev) (n : Ntc) : (raiseE e n).L.length ≤ e.L.length + 1 := by unfold raiseE; split <;> simp
theorem step_L {e : Ev} (h : Wf e) (a : Cl) : (stepE e a).L.length ≤ e.L.length + 1 := by
  have q4 := (dl_wf e.L e.R e.B h.L h.B).2.2.2
  have q5 : (e.L.filter fun n => enI n.t n.i a.c).length ≤ e.L.length := List.length_filter_le _ _
  unfold stepE
  split
  · rw [reqE_L]; omega
  split
  · exact raiseE_L _ _
  split
  · exact Nat.le_succ_of_le q4
  split
  · exact Nat.le_succ _
  split
  · exact Nat.le_succ_of_le q5
  split
  · exact Nat.le_succ _
  split
  · exact Nat.zero_le _
  · exact Nat.le_succ _

/-- events, and blocks among which all of theirs are -/
structure EvS (w : World) (S : Nat → Prop) (b m : Nat) (e : Ev) : Prop where
  ex : ∃ s1 s2, EvAt w b m s1 s2 e ∧ In S s1 ∧ In S s2
  sb : S b
  sm : S m
  slt : ∀ x, S x → x < w.heap.size
abbrev Nx (S : Nat → Prop) (w w' : World) : Nat → Prop := fun x => (S x ∨ w.heap.size ≤ x) ∧ x < w'.heap.size
theorem EvS.kept {w w' : World} {S M : Nat → Prop} {b m : Nat} {e : Ev} (h : EvS w S b m e) (hk : Kept M w w') (hM : ∀ x, S x → ¬ M x) : EvS w' S b m e := by
  obtain ⟨s1, s2, h1, h2, h3⟩ := h.ex
  exact ⟨⟨s1, s2, h1.kept hk (hM b h.sb) (hM m h.sm) (fun ad had => hM _ (h2 ad had)) (fun ad had => hM _ (h3 ad had)), h2, h3⟩, h.sb, h.sm, fun x hx => Nat.lt_of_lt_of_le (h.slt x hx) hk.size⟩
theorem EvS.same {w w' : World} {S : Nat → Prop} {b m : Nat} {e : Ev} (h : EvS w S b m e) (hk : Same w w') : EvS w' S b m e := h.kept hk fun _ _ h => h
theorem EvS.mono {w : World} {S S' : Nat → Prop} {b m : Nat} {e : Ev} (h : EvS w S b m e) (hS : ∀ x, S x → S' x) (hl : ∀ x, S' x → x < w.heap.size) : EvS w S' b m e := by
  obtain ⟨s1, s2, h1, h2, h3⟩ := h.ex
  exact ⟨⟨s1, s2, h1, fun ad had => hS _ (h2 ad had), fun ad had => hS _ (h3 ad had)⟩, hS _ h.sb, hS _ h.sm, hl⟩
theorem EvS.quiet {w w' : World} {S : Nat → Prop} {b m : Nat} {e : Ev} (h : EvS w S b m e) (hk : Quiet w w') : EvS w' S b m e := by
  obtain ⟨s1, s2, h1, h2, h3⟩ := h.ex
  exact ⟨⟨s1, s2, h1.quiet hk, h2, h3⟩, h.sb, h.sm, fun x hx => Nat.lt_of_lt_of_le (h.slt x hx) hk.size⟩
/-- behind a step -/
theorem EvS.next {w w' : World} {S : Nat → Prop} {b m m' : Nat} {s1 s2 s1' s2' : Value} {e e' : Ev} (h : EvS w S b m e) (hI1 : In S s1) (hI2 : In S s2) (hs : w.heap.size ≤ w'.heap.size) (h' : EvAt w' b m' s1' s2' e') (hm : m' = m ∨ w.heap.size ≤ m') (h1 : Fr w s1 s1') (h2 : Fr w s2 s2') : EvS w' (Nx S w w') b m' e' := by
  refine ⟨⟨s1', s2', h', fun ad had => ⟨?_, h'.r.2.2.2 ad had⟩, fun ad had => ⟨?_, h'.l.2.2.2 ad had⟩⟩, ⟨.inl h.sb, h'.lt⟩, ⟨?_, h'.map.lt⟩, fun x hx => hx.2⟩
  · rcases h1 ad had with ⟨ad0, q1, q2⟩ | q
    · rw [← q2]; exact .inl (hI1 ad0 q1)
    · exact .inr q
  · rcases h2 ad had with ⟨ad0, q1, q2⟩ | q
    · rw [← q2]; exact .inl (hI2 ad0 q1)
    · exact .inr q
  · rcases hm with rfl | hm
    · exact .inl h.sm
    · exact .inr hm
theorem fr_or {w : World} {s s' : Value} (h : s' = s ∨ ∀ ad, vaddr s' = some ad → w.heap.size ≤ ad.block) : Fr w s s' := by
  rcases h with rfl | h
  · exact Fr.refl _ _
  · exact Fr.new h

variable {w : World} {S : Nat → Prop} {b m : Nat} {e : Ev}
theorem Wf.ne {e : Ev} (h : Wf e) : e.lim ≠ 0 := by have := h.lim; omega
theorem Wf.len {e : Ev} (h : Wf e) : e.R.length ≤ 16 := by have := h.lim; have := h.R; omega
theorem m20 (h : EvS w S b m e) (hw : Wf e) (id : Int) : Runs Try.prog 20 [pt b, .int .u16 id] w (fun x => x = b) (fun v w' => v = stV (reqC e id / 256) (reqC e id % 256) false false ∧ EvS w' (Nx S w w') b m (reqE e id)) := by
  obtain ⟨s1, s2, h1, h2, h3⟩ := h.ex
  exact (c20 b m s1 s2 e id w h1 hw.ne (by have := hw.len; omega)).mono (fun v w' ⟨q1, s1', q2, q3⟩ hk => ⟨q1, h.next h2 h3 hk.size q2 (.inl rfl) (fr_or q3) (Fr.refl _ _)⟩) fun _ _ h => h
theorem m21 (h : EvS w S b m e) (hw : Wf e) (hL : e.L.length ≤ 50000) (n : Ntc) (hn : n.Ok) : Runs Try.prog 21 [pt b, n.v] w (fun x => x = b) (fun v w' => v = .tuple #[.bool (raiseB e n), .int .i64 (raiseC n)] ∧ EvS w' (Nx S w w') b m (raiseE e n)) := by
  obtain ⟨s1, s2, h1, h2, h3⟩ := h.ex
  exact (c21 b m s1 s2 e n hn hw.cfg w h1 hw.ne (by omega)).mono (fun v w' ⟨q1, s2', q2, q3⟩ hk => ⟨q1, h.next h2 h3 hk.size q2 (.inl rfl) (Fr.refl _ _) (fr_or q3)⟩) fun _ _ h => h
theorem m22 (h : EvS w S b m e) (hw : Wf e) (hL : e.L.length ≤ 50000) : Runs Try.prog 22 [pt b] w (fun x => x = b ∨ x = m) (fun v w' => (Mine resE 49 w' v (dl e.L e.R e.B).out ∧ ∀ g, v.ownBlock = some g → w.heap.size ≤ g ∧ g ≠ b ∧ g ≠ m) ∧ EvS w' (Nx S w w') b m (dlE e)) := by
  obtain ⟨s1, s2, h1, h2, h3⟩ := h.ex
  exact (c22 b m s1 s2 e w h1 hw.ne (fun n hn => (hw.L n hn).1) (by have := hw.len; omega) (by omega)).mono (fun v w' ⟨q1, q2, s1', s2', q3, q4, q5⟩ hk => ⟨⟨q1, fun g hg => ⟨q2 g hg, by have := q2 g hg; have := h1.lt; omega, by have := q2 g hg; have := h1.map.lt; omega⟩⟩, h.next h2 h3 hk.size q3 (.inl rfl) (fun ad had => .inl (q4 ad had)) q5⟩) fun _ _ h => h
theorem m23 (h : EvS w S b m e) (hw : Wf e) (p : Int) : Runs Try.prog 23 [pt b, .int .u8 p] w (fun x => x = m) (fun v w' => v = .int .i64 0 ∧ EvS w' (Nx S w w') b m (readE e p)) := by
  obtain ⟨s1, s2, h1, h2, h3⟩ := h.ex
  exact (c23 b m s1 s2 e hw.B p w h1 hw.ne).mono (fun v w' ⟨q1, q2⟩ hk => ⟨q1, h.next h2 h3 hk.size q2 (.inl rfl) (Fr.refl _ _) (Fr.refl _ _)⟩) fun _ _ h => h
theorem m18 (h : EvS w S b m e) (hw : Wf e) (hL : e.L.length ≤ 50000) (c : Int) (hc : 0 ≤ c ∧ c < 4294967296) : Runs Try.prog 18 [pt b, .int .u32 c] w (fun x => x = b) (fun v w' => v = .int .i64 0 ∧ EvS w' (Nx S w w') b m (cfgE e c)) := by
  obtain ⟨s1, s2, h1, h2, h3⟩ := h.ex
  exact (c18 b m s1 s2 e c hc (fun n hn => (hw.L n hn).1) (by omega) w h1 hw.ne).mono (fun v w' ⟨q1, s2', q2, q3⟩ hk => ⟨q1, h.next h2 h3 hk.size q2 (.inl rfl) (Fr.refl _ _) (Fr.new q3)⟩) fun _ _ h => h
theorem m30 (h : EvS w S b m e) (hw : Wf e) (id : Int) : Runs Try.prog 30 [pt b, .int .u16 id] w (fun x => x = b) (fun v w' => v = .int .i64 (abC e id) ∧ EvS w' (Nx S w w') b m (abE e id)) := by
  obtain ⟨s1, s2, h1, h2, h3⟩ := h.ex
  exact (c30 b m s1 s2 e id w h1 hw.ne (by have := hw.len; omega)).mono (fun v w' ⟨q1, s1', q2, q3⟩ hk => ⟨q1, h.next h2 h3 hk.size q2 (.inl rfl) (fr_or q3) (Fr.refl _ _)⟩) fun _ _ h => h
theorem m27 (h : EvS w S b m e) (hw : Wf e) : Runs Try.prog 27 [pt b] w (fun x => x = b) (fun v w' => v = .int .i64 0 ∧ ∃ m', (m' = m ∨ w.heap.size ≤ m') ∧ EvS w' (Nx S w w') b m' (resetE e)) := by
  obtain ⟨s1, s2, h1, h2, h3⟩ := h.ex
  exact (c27 b m s1 s2 e w h1 hw.ne).mono (fun v w' ⟨q1, m', q2, q3⟩ hk => ⟨q1, m', .inr q3, h.next h2 h3 hk.size q2 (.inr q3) (fun ad had => by cases had) (fun ad had => by cases had)⟩) fun _ _ h => h
theorem m29 (h : EvS w S b m e) (hw : Wf e) (hL : e.L.length ≤ 50000) (r1 r2 : Value) (Bl : Nat → Bool) (Pg : Nat → Int) (h1 : Given hE w r1 e.R) (h2 : Given ntcE w r2 e.L) : Gives Try.prog 29 [pt b, refV e.lim e.cfg r1 r2 Bl Pg] w (.bool true) := by
  obtain ⟨s1, s2, q1, q2, q3⟩ := h.ex
  exact c29 b m s1 s2 r1 r2 e Bl Pg w q1 hw.ne h1 h2 (by have := hw.len; omega) (by omega)
end Go.Proofs.Ytfjlnfgbfclgbaa
