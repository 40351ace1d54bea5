/- The law EventBlocks. No conditions beyond those that each theorem names. -/
import Derived.Test.YtfjlnfgbfclgbaaW
import Derived.Test.YtfjlnfgbfclgbaaTN
set_option maxRecDepth 100000
set_option maxHeartbeats 4000000
set_option linter.unusedVariables false
set_option linter.unusedSimpArgs false
namespace Go.Proofs.Ytfjlnfgbfclgbaa
open Go.Sx

/-- the page that blocks a type, and one; 0: not blocked -/
def pgOf (B : Int → Option Int) (t : Nat) : Int := match B t with | some p => p + 1 | none => 0
def pgQ (Q : Nat → Int) : List Value := [.int .i64 (Q 0), .int .i64 (Q 1), .int .i64 (Q 2), .int .i64 (Q 3), .int .i64 (Q 4), .int .i64 (Q 5), .int .i64 (Q 6), .int .i64 (Q 7)]
def pgL (B : Int → Option Int) : List Value := pgQ (pgOf B)
theorem pgQ_eq {Q Q' : Nat → Int} (h : ∀ i, i < 8 → Q i = Q' i) : pgQ Q = pgQ Q' := by
  unfold pgQ
  rw [h 0 (by decide), h 1 (by decide), h 2 (by decide), h 3 (by decide), h 4 (by decide), h 5 (by decide), h 6 (by decide), h 7 (by decide)]
/-- the blocked types after completions -/
def foldB : List (Int × Int) → (Int → Option Int) → (Int → Option Int)
  | [], B => B
  | x :: out, B => foldB out (upd B (x.2 % 8) (x.2 / 65536))
theorem foldB_snoc : ∀ (l : List (Int × Int)) (x : Int × Int) (B : Int → Option Int), foldB (l ++ [x]) B = upd (foldB l B) (x.2 % 8) (x.2 / 65536)
  | [], x, B => rfl
  | y :: l, x, B => foldB_snoc l x _
theorem pgOf_upd (B : Int → Option Int) (k p : Int) (t : Nat) : pgOf (upd B k p) t = if (t : Int) = k then p + 1 else pgOf B t := by
  unfold pgOf upd
  by_cases h : (t : Int) = k
  · rw [if_pos h, if_pos h]
  · rw [if_neg h, if_neg h]
theorem resI_parts {n : Ntc} (h : n.Ok) (h8 : n.t < 8) : resI n % 8 = n.t ∧ resI n / 65536 = n.p ∧ 0 ≤ resI n ∧ resI n < 16777216 := by
  have := h.t
  have := h.i
  have := h.p
  unfold resI
  omega
theorem dl_seq : ∀ (L : List Ntc) (R : List Int) (B : Int → Option Int), (∀ n ∈ L, n.Ok ∧ n.t < 8) →
    (∀ (k : Nat) x, (dl L R B).out[k]? = some x → R[k]? = some x.1 ∧ foldB ((dl L R B).out.take k) B (x.2 % 8) = none ∧ 0 ≤ x.2 ∧ x.2 < 16777216) ∧ foldB (dl L R B).out B = (dl L R B).B ∧ (dl L R B).R = R.drop (dl L R B).out.length ∧ (dl L R B).out.length + (dl L R B).left.length = L.length
  | [], R, B, _ => ⟨fun k x h => by simp [dl] at h, rfl, by simp [dl], by simp [dl]⟩
  | n :: L, [], B, hL => by
    rw [dl_nil]
    exact ⟨fun k x h => by simp at h, rfl, rfl, by simp⟩
  | n :: L, r :: R, B, hL => by
    have hL' : ∀ y ∈ L, y.Ok ∧ y.t < 8 := fun y hy => hL y (List.mem_cons_of_mem _ hy)
    by_cases hb : (B n.t).isSome = true
    · obtain ⟨q1, q2, q3, q4⟩ := dl_seq L (r :: R) B hL'
      rw [dl_cons_b _ _ _ _ _ hb]
      exact ⟨q1, q2, q3, by simp only [List.length_cons]; omega⟩
    · obtain ⟨q1, q2, q3, q4⟩ := dl_seq L R (upd B n.t n.p) hL'
      obtain ⟨h1, h2⟩ := hL n (List.mem_cons_self ..)
      obtain ⟨e1, e2, e3, e4⟩ := resI_parts h1 h2
      rw [dl_cons_f _ _ _ _ _ (by simpa using hb)]
      refine ⟨fun k x hk => ?_, ?_, ?_, ?_⟩
      · cases k with
        | zero =>
          cases hk
          refine ⟨rfl, ?_, e3, e4⟩
          show B (resI n % 8) = none
          rw [e1]
          simpa using hb
        | succ k =>
          obtain ⟨g1, g2, g3⟩ := q1 k x (by simpa using hk)
          refine ⟨by simpa using g1, ?_, g3⟩
          show foldB ((dl L R (upd B n.t n.p)).out.take k) (upd B (resI n % 8) (resI n / 65536)) (x.2 % 8) = none
          rw [e1, e2]
          exact g2
      · show foldB (dl L R (upd B n.t n.p)).out (upd B (resI n % 8) (resI n / 65536)) = _
        rw [e1, e2]
        exact q2
      · show (dl L R (upd B n.t n.p)).R = (r :: R).drop ((dl L R (upd B n.t n.p)).out.length + 1)
        rw [List.drop_succ_cons]
        exact q3
      · show (dl L R (upd B n.t n.p)).out.length + 1 + (dl L R (upd B n.t n.p)).left.length = L.length + 1
        omega
/-- the object, and the law's list of waiting requests -/
structure Obj4 (w : World) (lo : Nat) (P S : Nat → Prop) (b m : Nat) (e : Ev) (Wv : Value) (R : List Int) : Prop where
  ev : EvS w S b m e
  wf : Wf e
  tl : Tail hE 37 w Wv R
  own : ∀ g, Wv.ownBlock = some g → lo ≤ g ∧ ¬ P g ∧ ¬ S g
  sl : ∀ x, S x → lo ≤ x ∧ ¬ P x
section
variable {w w' : World} {lo : Nat} {P S : Nat → Prop} {b m : Nat} {e : Ev} {Wv : Value} {R : List Int}
theorem Obj4.kept {M : Nat → Prop} (h : Obj4 w lo P S b m e Wv R) (hk : Kept M w w') (hM : ∀ x, M x → P x ∨ w.heap.size ≤ x) : Obj4 w' lo P S b m e Wv R :=
  ⟨h.ev.kept hk fun x hx hm => by
    have q1 := h.sl x hx
    have q2 := h.ev.slt x hx
    rcases hM x hm with h1 | h1
    · exact q1.2 h1
    · omega, h.wf, h.tl.kept hk fun g hg hm => by
    have q1 := h.own g hg
    have q2 := h.tl.lt hg
    rcases hM g hm with h1 | h1
    · exact q1.2.1 h1
    · omega, h.own, h.sl⟩
theorem Obj4.same (h : Obj4 w lo P S b m e Wv R) (hk : Same w w') : Obj4 w' lo P S b m e Wv R := h.kept hk fun _ h => h.elim
theorem Obj4.quiet (h : Obj4 w lo P S b m e Wv R) (hk : Quiet w w') : Obj4 w' lo P S b m e Wv R := ⟨h.ev.quiet hk, h.wf, h.tl.quiet hk, h.own, h.sl⟩
theorem Obj4.more {P' : Nat → Prop} (h : Obj4 w lo P S b m e Wv R) (hP : ∀ x, P' x → P x ∨ w.heap.size ≤ x) : Obj4 w lo P' S b m e Wv R :=
  ⟨h.ev, h.wf, h.tl, fun g hg => ⟨(h.own g hg).1, fun hp => by
    have q := h.tl.lt hg
    rcases hP g hp with h1 | h1
    · exact (h.own g hg).2.1 h1
    · omega, (h.own g hg).2.2⟩, fun x hx => ⟨(h.sl x hx).1, fun hp => by
    have q := h.ev.slt x hx
    rcases hP x hp with h1 | h1
    · exact (h.sl x hx).2 h1
    · omega⟩⟩
/-- a step of the object -/
theorem Obj4.step {m' : Nat} {e' : Ev} (h : Obj4 w lo P S b m e Wv R) (hk : Kept (fun x => x = b ∨ x = m) w w') (h' : EvS w' (Nx S w w') b m' e') (hw : Wf e') (hP : ∀ x, P x → x < w.heap.size) (hlo : lo ≤ w.heap.size) : Obj4 w' lo P (Nx S w w') b m' e' Wv R :=
  ⟨h', hw, h.tl.kept hk fun g hg hm => by
    have q := h.own g hg
    rcases hm with rfl | rfl
    · exact q.2.2 h.ev.sb
    · exact q.2.2 h.ev.sm, fun g hg => ⟨(h.own g hg).1, (h.own g hg).2.1, fun hx => by
    have q := h.own g hg
    have := h.tl.lt hg
    rcases hx.1 with hx | hx
    · exact q.2.2 hx
    · omega⟩, fun x hx => by
    rcases hx.1 with h1 | h1
    · exact h.sl x h1
    · exact ⟨by omega, fun hp => by have := hP x hp; omega⟩⟩
end
theorem rem8 {x : Int} (h : 0 ≤ x ∧ x < 16777216) : IntKind.i64.wrap (x.tmod 8) = x % 8 := by
  rw [Int.tmod_eq_emod_of_nonneg h.1, IntKind.wrap_i64]
  omega
theorem shr16 {x : Int} (h : 0 ≤ x ∧ x < 16777216) : IntKind.i64.wrap (x.fdiv (2 ^ (Min.min (16 : Int).toNat 32))) = x / 65536 := by
  have e : (2 : Int) ^ (Min.min (16 : Int).toNat 32) = 65536 := by decide
  rw [e, Int.fdiv_eq_ediv_of_nonneg _ (by decide), IntKind.wrap_i64]
  omega
theorem isI_zero (e : Ev) (id : Int) : isI (reqC e id / 256) (reqC e id % 256) false false 0 = decide (reqC e id = 0) := by
  unfold isI
  have : 256 * (reqC e id / 256) + reqC e id % 256 = reqC e id := by omega
  simp [this]
theorem raise_len (e : Ev) (n : Ntc) : ((raiseE e n).L.length : Int) = e.L.length + (if raiseB e n then 1 else 0) := by
  unfold raiseE
  split <;> simp
theorem raise_B (e : Ev) (n : Ntc) : (raiseE e n).B = e.B ∧ (raiseE e n).R = e.R := by unfold raiseE; split <;> exact ⟨rfl, rfl⟩
theorem req_B (e : Ev) (id : Int) : (reqE e id).B = e.B ∧ (reqE e id).L = e.L := by unfold reqE; split <;> exact ⟨rfl, rfl⟩
theorem read_pg (B : Int → Option Int) (p : Int) (t : Nat) : pgOf (readB B p) t = if pgOf B t = p + 1 then 0 else pgOf B t := by
  unfold pgOf readB
  cases hb : B t with
  | none => simp
  | some q =>
    simp only
    by_cases hq : q = p
    · subst hq; simp
    · have : ¬ (q + 1 = p + 1) := by omega
      simp [hq, this]
theorem pgHit {B : Int → Option Int} {p : Int} {Q : Nat → Int} {k : Nat} (hQ : ∀ i, i < 8 → Q i = if i < k then pgOf (readB B p) i else pgOf B i) (he : Q k = p + 1) : ∀ i, i < 8 → (fun i => if i = k then 0 else Q i) i = if i < k + 1 then pgOf (readB B p) i else pgOf B i := fun i hi => by
  by_cases e : i = k
  · subst e
    have q := hQ i hi
    rw [if_neg (by omega)] at q
    show (if i = i then (0 : Int) else Q i) = _
    rw [if_pos rfl, if_pos (by omega : i < i + 1), read_pg, if_pos (by rw [← q]; exact he)]
  · show (if i = k then (0 : Int) else Q i) = _
    rw [if_neg e, hQ i hi]
    by_cases h : i < k
    · rw [if_pos h, if_pos (by omega)]
    · rw [if_neg h, if_neg (by omega)]
theorem pgMiss {B : Int → Option Int} {p : Int} {Q : Nat → Int} {k : Nat} (hQ : ∀ i, i < 8 → Q i = if i < k then pgOf (readB B p) i else pgOf B i) (he : Q k ≠ p + 1) : ∀ i, i < 8 → Q i = if i < k + 1 then pgOf (readB B p) i else pgOf B i := fun i hi => by
  by_cases e : i = k
  · subst e
    have q := hQ i hi
    rw [if_neg (by omega)] at q
    rw [if_pos (by omega), read_pg, if_neg (by rw [← q]; exact he)]
    exact q
  · rw [hQ i hi]
    by_cases h : i < k
    · rw [if_pos h, if_pos (by omega)]
    · rw [if_neg h, if_neg (by omega)]

theorem c4 (lim : Int) (A : List Cl) (s : Value) (w : World) (hA : Given clE w s A) (hAl : A.length < 9223372036854775808) (hok : ∀ a ∈ A, a.Ok) : Gives Try.prog 4 [.int .i64 lim, s] w (.bool true) := by
  obtain ⟨a, c, rfl⟩ := hA.1.slice
  refine Runs.gives ?_
  have hh := runs mix t4 rfl rfl (ε := [.int .i64 lim, .slice a A.length c]) (heap := []) (w := w) (M := fun _ => False) (R := fun v _ => v = .bool true) ⟨⟨_, rfl⟩, ⟨_, _, _, rfl⟩, trivial⟩ trivial (by simp [keys]) (by simp [keys]) (by simp [keys]) ?_
  · exact hh
  refine den_callR (fun w1 l w2 => ((lim < 1 ∨ 16 < lim) ∧ l = [.pointer none, .int .i64 2]) ∨ ((1 ≤ lim ∧ lim ≤ 16) ∧ ∃ b m, l = [pt b, .int .i64 0] ∧ EvAt w2 b m (.slice none 0 0) (.slice none 0 0) ⟨lim, 0, [], [], fun _ => none⟩ ∧ w1.heap.size ≤ b ∧ w1.heap.size ≤ m)) (fun w1 h1 => ?_) ?_
  · refine (c17 lim w1).mono fun v w' hv => ?_
    rcases hv with ⟨hl, rfl⟩ | ⟨hl, b, m, rfl, E, q1, q2⟩
    · exact ⟨[.pointer none, .int .i64 2], ⟨⟨_, rfl⟩, ⟨_, rfl⟩, trivial⟩, rfl, .inl ⟨hl, rfl⟩⟩
    · exact ⟨[pt b, .int .i64 0], ⟨⟨_, rfl⟩, ⟨_, rfl⟩, trivial⟩, rfl, .inr ⟨hl, b, m, rfl, E, q1, q2⟩⟩
  rintro w1 l w2 h1 _ (⟨hl, rfl⟩ | ⟨hl, b, m, rfl, E0, hb1, hm1⟩) k12
  · exact den_norm (by simp only [List.cons_append, List.nil_append]; rfl) (den_split_true rfl (den_call_bool (b := true) (fun wa _ => c16 wa) rfl (fun _ _ _ _ => den_norm (by simp only [List.cons_append, List.nil_append]; rfl) (den_leafMA _ rfl fun _ _ _ _ => rfl))))
  have z1 : w.heap.size ≤ w1.heap.size := h1.base.size
  have z12 : w1.heap.size ≤ w2.heap.size := k12.size
  have lb := E0.lt
  have lm := E0.map.lt
  have V2 : EvS w2 (fun x => x = b ∨ x = m) b m ⟨lim, 0, [], [], fun _ => none⟩ := ⟨⟨_, _, E0, (fun ad had => by cases had), (fun ad had => by cases had)⟩, .inl rfl, .inr rfl, fun x hx => by rcases hx with rfl | rfl <;> omega⟩
  have blkA := hA.2.2.2
  refine den_norm (by simp only [List.cons_append, List.nil_append]; rfl) (den_split_false rfl (den_splitLt (fun h80 => ?_) (fun h80 => ?_)))
  · exact den_call_bool (b := true) (fun wa _ => c16 wa) rfl (fun _ _ _ _ => den_norm (by simp only [List.cons_append, List.nil_append]; rfl) (den_leafMA _ rfl fun _ _ _ _ => rfl))
  have hA80 : A.length ≤ 80 := by
    have : (A.length : Int) ≤ 80 := h80
    omega
  refine den_callM (fun _ y => y = b) (fun w3 l w4 => l = [.int .i64 0] ∧ EvS w4 (Nx (fun x => x = b ∨ x = m) w3 w4) b m (cfgE ⟨lim, 0, [], [], fun _ => none⟩ 4294967295)) (fun w3 h3 y hy hlt => ⟨fun hd => (by cases hd), fun hl => absurd (show y < w.heap.size from hl) (by omega), fun hin => by first | (simp [BlkIn, nth, blkOf, vaddr] at hin; done) | (simp [BlkIn, nth, blkOf, vaddr] at hin; omega), fun _ => (V2.same (shown_same h3)).nr (.inl hy)⟩) (fun w3 h3 => ?_) ?_
  · exact (m18 (V2.same (shown_same h3)) (wf_new hl) (by simp) 4294967295 (by decide)).mono (fun v w' ⟨p1, p2⟩ _ => ⟨[.int .i64 0], ⟨⟨_, rfl⟩, trivial⟩, p1, ⟨rfl, p2⟩, trivial⟩) fun _ _ h => h
  rintro w3 l w4 h3 _ ⟨rfl, V4⟩ k34
  have z23 : w2.heap.size ≤ w3.heap.size := h3.kept.size
  have z34 : w3.heap.size ≤ w4.heap.size := k34.size
  refine den_norm (by simp only [List.cons_append, List.nil_append]; rfl) (den_split_false rfl (den_blk fun b5 k5 k5' _ => den_norm (by simp only [List.cons_append, List.nil_append]; rfl) ?_))
  have z5 : w4.heap.size ≤ b5 := k5'
  refine den_loop (fun ls w' => ∃ (j d : Nat) (S : Nat → Prop) (m : Nat) (e : Ev) (Wv : Value), j ≤ A.length ∧ ls = Wv :: .int .i64 ((d + e.L.length : Nat) : Int) :: .int .i64 (d : Int) :: .int .i64 (j : Int) :: pgL e.B ∧ Obj4 w' w.heap.size (fun x => x = b5) S b m e Wv e.R ∧ e.L.length ≤ j ∧ d ≤ 16 * j)
    (fun ls _ => A.length - (vint (nth ls 3)).toNat) (fun w5 h5 => ?_) ?_
  · refine ⟨0, 0, _, m, _, _, Nat.zero_le _, rfl, ⟨V4.same (shown_new h5 fun x hx => by first | (simp [BlkIn, nth, blkOf, vaddr] at hx; done) | (simp [BlkIn, nth, blkOf, vaddr] at hx; omega)), (wf_new hl).config (by decide), .inl ⟨rfl, rfl⟩, (fun g hg => by cases hg), fun x hx => ?_⟩, Nat.zero_le _, Nat.zero_le _⟩
    have := hx.2
    rcases hx.1 with hx | hx
    · rcases hx with rfl | rfl <;> omega
    · omega
  rintro w5 l w6 h5 hfl ⟨j, d, S, m, e, Wv, hj, rfl, hS, hLj, hd⟩ hk6 hfa6
  obtain ⟨Wa, Wc, rfl⟩ := hS.tl.slice
  have hA6 := hA.same hk6
  have zw6 : w.heap.size ≤ w6.heap.size := hk6.size
  have lb5 : b5 < w6.heap.size := by
    obtain ⟨x1, q1, l1⟩ := hfa6.1.lt
    cases q1
    exact l1
  have hb := hS.sl b hS.ev.sb
  have hm := hS.sl m hS.ev.sm
  have hR16 := hS.wf.len
  refine den_norm (by simp only [List.cons_append, List.nil_append, pgL, pgQ]; rfl) (den_splitLt (fun hlt => ?_) (fun hge => ?_))
  rotate_left
  · refine den_callR (fun w7 l w8 => ∃ v, l = [v] ∧ SeqAt Try.prog w7.heap.size w8.heap.size w8 v (ysN e.L)) (fun w7 h7 => ?_) ?_
    · obtain ⟨s1, s2, E, _, _⟩ := (hS.same (shown_same h7)).ev.ex
      refine (c24 b m _ _ e w7 E hS.wf.ne (by omega)).mono fun v w' hs => ⟨[v], ?_, ?_, v, rfl, hs⟩
      · obtain ⟨g, caps, Ft, rfl, _⟩ := hs.ex
        exact ⟨rfl, trivial⟩
      · rfl
    rintro w7 l w8 h7 _ ⟨fv, rfl, hsq⟩ h78
    have hfn : vnil fv = false := by
      obtain ⟨g, caps, Ft, rfl, _⟩ := hsq.ex
      rfl
    have z67 : w6.heap.size ≤ w7.heap.size := h7.kept.size
    have z78 : w7.heap.size ≤ w8.heap.size := h78.size
    have O8 := (hS.same (shown_same h7)).same h78
    refine den_norm (by simp only [List.cons_append, List.nil_append]; rfl) (den_split_false (by simp [BE.den, nth, hfn]) (den_blk fun b19 k19 _ _ => den_norm (by simp only [List.cons_append, List.nil_append]; rfl) ?_))
    have z19 : w8.heap.size ≤ b19 := k19
    refine den_range (e.L.map Ntc.cells) (fun k l wk => l = [.int .i64 (k : Int)] ∧ Obj4 wk w.heap.size (fun x => x = b5 ∨ x = b19) S b m e (.slice Wa e.R.length Wc) e.R) w7.heap.size w8.heap.size ?_ ?_ ?_ ?_ ?_ ?_
    · intro y hy
      obtain ⟨x, _, rfl⟩ := List.mem_map.1 hy
      exact ⟨⟨_, rfl⟩, ⟨_, rfl⟩, ⟨_, rfl⟩, trivial⟩
    · intro y hy
      simp [BlkIn, nth, blkOf, vaddr] at hy
      omega
    · intro w9 h9
      exact hsq.kept h9.kept fun x hx1 hx2 hx3 hx4 => by simp [BlkIn, nth, blkOf, vaddr] at hx4; omega
    · intro w9 h9
      exact ⟨rfl, (O8.more fun x hx => by omega).kept h9.kept fun y hy => by simp [BlkIn, nth, blkOf, vaddr] at hy; omega⟩
    · rintro w9 Ft h9 k y hy l hl' wa wb ⟨rfl, Oa⟩ hq hk hfa hFt
      rw [List.getElem?_map] at hy
      obtain ⟨x, hx, rfl⟩ := Option.map_eq_some_iff.1 hy
      have hkl : k < e.L.length := (List.getElem?_eq_some_iff.1 hx).1
      have Ob := Oa.quiet hq
      have fb : b19 < wb.heap.size := by obtain ⟨x1, q1, l1⟩ := hfa.1.lt; cases q1; exact l1
      refine den_norm (by simp only [List.cons_append, List.nil_append, Ntc.cells]; rfl) ?_
      refine den_ob64 (by simp only [IE.den, nth, vint]; omega) (den_leaf_round hFt fun wc hc => ⟨by simp [SV.den, denL, IE.den, BE.den, nth, vint, vbool, vaddr, addO, addr_add], Ob.kept hc.kept fun y hy => by simp [BlkIn, nth, blkOf, vaddr] at hy; omega⟩)
    rintro w9 h9 l hl' wa wb ⟨rfl, Oa⟩ hq hk hfa
    rw [List.length_map] at *
    have Ob := Oa.quiet hq
    refine den_norm (by simp only [List.cons_append, List.nil_append]; rfl) (den_ob64 (by simp only [IE.den, nth, vint]; omega) (den_split_true (by simp only [BE.den, IE.den, nth, vint]; exact decide_eq_true (by omega)) ?_))
    refine den_callR (fun w8 l w9 => ∃ oa oc, l = [.slice oa e.R.length oc]) (fun wc hc => ?_) ?_
    · refine (m25 (Ob.same (shown_same hc)).ev hS.wf).mono fun v w' ⟨a', c', q1, q2⟩ => ?_
      exact ⟨[.slice a' e.R.length c'], ⟨⟨_, _, _, rfl⟩, trivial⟩, q1, a', c', rfl⟩
    rintro wc l wd hc _ ⟨oa2, oc2, rfl⟩ kcd
    refine den_norm (by simp only [List.cons_append, List.nil_append]; rfl) (den_split_true (by simp [BE.den, IE.den, nth, vlen]) ?_)
    exact den_call_bool (b := true) (fun wa _ => c16 wa) rfl (fun _ _ _ _ => den_norm (by simp only [List.cons_append, List.nil_append]; rfl) (den_leafM_ne (by decide) (den_leafMA _ rfl fun _ _ _ _ => rfl)))
  have hlt' : j < A.length := by simpa [IE.den, nth, vint, vlen] using hlt
  have hx : A[j]? = some (A[j]'hlt') := by simp
  generalize A[j]'hlt' = x at hx
  have hxo := hok x (List.mem_of_getElem? hx)
  have o1 : ∀ {k : VC} {ε : List Value} {wx ws : World} {X : Nat → Prop} {G : Ctx} {Λ : Nat → List Value → World → Prop} (hn : nth ε 9 = .int .i64 (j : Int)) (hn1 : nth ε 1 = .slice a A.length c), k.den G Λ ε wx ws X → (VC.ob (.le (.lit 0) (.var 9)) (VC.ob (.lt (.var 9) (.len 1)) k)).den G Λ ε wx ws X := fun {k ε wx ws X G Λ} hn hn1 hk => den_ob (by simp [BE.den, IE.den, hn, vint]) (den_ob (by simp [BE.den, IE.den, hn, hn1, vint, vlen]; exact hlt') hk)
  refine den_idx2 (E := clE) (L := A) x j [.int .i64 x.k] hA6.1 rfl (by decide) rfl hx ⟨⟨_, rfl⟩, trivial⟩ (fun mm v hv => by cases mm with | zero => cases hv; rfl | succ mm => simp at hv) (fun w7 h7 => (hA6.same (shown_same h7)).1) (fun ad had => by simp [BlkIn, nth, blkOf, vaddr]) (fun w7 h7 => den_norm (by simp only [List.cons_append, List.nil_append]; rfl) ?_)
  have hS7 := hS.same (shown_same h7)
  have hA7 := hA6.same (shown_same h7)
  have z67 : w6.heap.size ≤ w7.heap.size := h7.kept.size
  refine den_splitEq (fun hk => ?_) (fun hk0 => ?_)
  · refine o1 rfl rfl ?_
    intro w8 h8
    obtain ⟨adw8, hadw8, hcw8⟩ := (hA7.same (shown_same h8)).1.elem hx (by decide)
    refine den_load [.int .u16 x.id] ((adw8.add (j * 6)).add 1) ⟨⟨_, rfl⟩, trivial⟩ (by have e1 : a = some adw8 := hadw8; subst e1; simp only [SV.den, nth, vaddr, addO, Option.map_some, IE.den, vint, Int.toNat_natCast]; rfl) (by simp [BlkIn, nth, blkOf, vaddr]) (fun mm v hv => by rw [add_add]; exact hcw8 _ v (by cases mm with | zero => cases hv; rfl | succ mm => simp at hv)) (den_norm (by simp only [List.cons_append, List.nil_append]; rfl) ?_)
    have hS8 := hS7.same (shown_same h8)
    have z78 : w7.heap.size ≤ w8.heap.size := h8.kept.size
    refine den_callM (fun _ y => y = b) (fun w9 l wa => l = [.int .u8 (reqC e x.id / 256), .int .u8 (reqC e x.id % 256), .bool false, .bool false] ∧ EvS wa (Nx S w9 wa) b m (reqE e x.id)) (fun w9 h9 y hy hlt => ⟨fun hd => (by cases hd), fun hl => absurd (show y < w.heap.size from hl) (by omega), fun hin => by first | (simp [BlkIn, nth, blkOf, vaddr] at hin; done) | (simp [BlkIn, nth, blkOf, vaddr] at hin; omega), fun _ => (hS8.same (shown_same h9)).ev.nr (.inl hy)⟩) (fun w9 h9 => ?_) ?_
    · exact (m20 (hS8.same (shown_same h9)).ev hS.wf x.id).mono (fun v w' ⟨p1, p2⟩ _ => ⟨[.int .u8 (reqC e x.id / 256), .int .u8 (reqC e x.id % 256), .bool false, .bool false], ⟨⟨_, rfl⟩, ⟨_, rfl⟩, ⟨_, rfl⟩, ⟨_, rfl⟩, trivial⟩, p1, ⟨rfl, p2⟩, trivial⟩) fun _ _ h => h
    rintro w9 l wa h9 _ ⟨rfl, Va⟩ k9a
    have z89 : w8.heap.size ≤ w9.heap.size := h9.kept.size
    have Oa := (hS8.same (shown_same h9)).step (k9a.mono fun _ _ h => .inl h) Va (hS.wf.req x.id) (fun x hx => by omega) (by omega)
    have z9a : w9.heap.size ≤ wa.heap.size := k9a.size
    obtain ⟨rg1, rg2⟩ := reqC_rng e x.id
    obtain ⟨eB, eL⟩ := req_B e x.id
    refine den_norm (by simp only [List.cons_append, List.nil_append]; rfl) ?_
    refine den_call_bool (b := decide (reqC e x.id = 0)) (fun wb _ => (c19 (reqC e x.id / 256) (reqC e x.id % 256) false false 0 rg1 rg2 wb).to (by rw [isI_zero])) rfl (fun wb wc hb2 hbc => den_norm (by simp only [List.cons_append, List.nil_append]; rfl) (den_split (fun hq => ?_) (fun hq => ?_)))
    · have hq' : reqC e x.id = 0 := of_decide_eq_true hq
      have eR : (reqE e x.id).R = e.R ++ [x.id] := by unfold reqE; rw [if_pos hq']
      have Oc := (Oa.same (shown_same hb2)).same hbc
      have zac : wa.heap.size ≤ wc.heap.size := ((shown_same hb2).trans hbc).size
      have hAc : Given clE wc (.slice a A.length c) A := hA.kept (M := fun y => w.heap.size ≤ y) (by
        have k1 : Kept (fun y => w.heap.size ≤ y) w w9 := ((hk6.trans (shown_same h7)).trans ((shown_same h8).trans (shown_same h9))).mono fun _ _ h => h.elim
        exact (k1.then k9a fun y _ hy => by omega).then ((shown_same hb2).trans hbc) fun _ _ h => h.elim) fun ad had hy => by have := blkA ad had; omega
      refine o1 rfl rfl ?_
      intro wd hd2
      obtain ⟨adwd, hadwd, hcwd⟩ := (hAc.same (shown_same hd2)).1.elem hx (by decide)
      refine den_load [.int .u16 x.id] ((adwd.add (j * 6)).add 1) ⟨⟨_, rfl⟩, trivial⟩ (by have e1 : a = some adwd := hadwd; subst e1; simp only [SV.den, nth, vaddr, addO, Option.map_some, IE.den, vint, Int.toNat_natCast]; rfl) (by simp [BlkIn, nth, blkOf, vaddr]) (fun mm v hv => by rw [add_add]; exact hcwd _ v (by cases mm with | zero => cases hv; rfl | succ mm => simp at hv)) (den_norm (by simp only [List.cons_append, List.nil_append]; rfl) ?_)
      have Od := Oc.same (shown_same hd2)
      have zcd : wc.heap.size ≤ wd.heap.size := hd2.kept.size
      refine den_blk fun b26 k26 _ _ => den_norm (by simp only [List.cons_append, List.nil_append]; rfl) ?_
      have z26 : wd.heap.size ≤ b26 := k26
      refine den_pushT (E := hE) (T := 37) rfl u35 i37 z37 s37 rfl (by decide) by37 h_one (.slice Wa e.R.length Wc) e.R x.id rfl rfl rfl (by omega) (fun we he g hg => ⟨fun hd => (by cases hd), fun hl => absurd (show g < w.heap.size from hl) (by have := Od.own g hg; omega), fun hin => by have := Od.own g hg; have := Od.tl.lt hg; simp [BlkIn, nth, blkOf, vaddr] at hin; omega, fun _ => (Od.same (shown_same he)).tl.notRec hg⟩) (fun we he => (Od.same (shown_same he)).tl) (fun _ => rfl) (fun we Wv' wf he hT kef hfr => den_norm (by simp only [List.cons_append, List.nil_append]; rfl) ?_)
      have Oe := Od.same (shown_same he)
      have zde : wd.heap.size ≤ we.heap.size := he.kept.size
      have l26 : b26 < we.heap.size := he.lt (i := 26) (by simp [keys]) rfl
      have own' : ∀ g, Wv'.ownBlock = some g → w.heap.size ≤ g ∧ ¬ (g = b5) ∧ ¬ (Nx S w9 wa) g ∧ g ≠ b26 := fun g hg => by
        rcases hfr g hg with h | h
        · have q := Od.own g h
          have := Od.tl.lt h
          exact ⟨q.1, q.2.1, q.2.2, by omega⟩
        · exact ⟨by omega, by omega, fun hx => by have := hx.2; omega, by omega⟩
      have Of : Obj4 wf w.heap.size (fun x => x = b5) (Nx S w9 wa) b m (reqE e x.id) Wv' (reqE e x.id).R := ⟨Oe.ev.kept kef fun y hy hm => (Oe.own y hm).2.2 hy, Oe.wf, by rw [eR]; exact hT, fun g hg => ⟨(own' g hg).1, (own' g hg).2.1, (own' g hg).2.2.1⟩, Oe.sl⟩
      refine den_ob64 (by simp only [IE.den, nth, vint]; omega) (den_leaf' fun wz hz => (if_pos rfl).mpr ⟨⟨j + 1, d, _, m, reqE e x.id, Wv', by omega, by rw [eB, eL]; rfl, Of.same (shown_same hz), by rw [eL]; omega, by omega⟩, ?_⟩)
      simp only [denL, SV.den, IE.den, nth, vint]; omega
    · have hq' : reqC e x.id ≠ 0 := of_decide_eq_false hq
      have eE : reqE e x.id = e := by unfold reqE; rw [if_neg hq']
      rw [eE] at Oa
      have Oc := (Oa.same (shown_same hb2)).same hbc
      refine den_ob64 (by simp only [IE.den, nth, vint]; omega) (den_leaf' fun wz hz => (if_pos rfl).mpr ⟨⟨j + 1, d, _, m, e, _, by omega, rfl, Oc.same (shown_same hz), by omega, by omega⟩, ?_⟩)
      simp only [denL, SV.den, IE.den, nth, vint]; omega
  refine den_splitEq (fun hk => ?_) (fun hk1 => ?_)
  · refine o1 rfl rfl ?_
    intro w8 h8
    obtain ⟨adw8, hadw8, hcw8⟩ := (hA7.same (shown_same h8)).1.elem hx (by decide)
    refine den_load [.int .u8 x.n.t, .int .u8 x.n.i, .int .u8 x.n.p] ((adw8.add (j * 6)).add 2) ⟨⟨_, rfl⟩, ⟨_, rfl⟩, ⟨_, rfl⟩, trivial⟩ (by have e1 : a = some adw8 := hadw8; subst e1; simp only [SV.den, nth, vaddr, addO, Option.map_some, IE.den, vint, Int.toNat_natCast]; rfl) (by simp [BlkIn, nth, blkOf, vaddr]) (fun mm v hv => by rw [add_add]; exact hcw8 _ v (by match mm, hv with | 0, hv => cases hv; rfl | 1, hv => cases hv; rfl | 2, hv => cases hv; rfl)) (den_norm (by simp only [List.cons_append, List.nil_append]; rfl) ?_)
    have hS8 := hS7.same (shown_same h8)
    have z78 : w7.heap.size ≤ w8.heap.size := h8.kept.size
    refine den_callM (fun _ y => y = b) (fun w9 l wa => l = [.bool (raiseB e x.n), .int .i64 (raiseC x.n)] ∧ EvS wa (Nx S w9 wa) b m (raiseE e x.n)) (fun w9 h9 y hy hlt => ⟨fun hd => (by cases hd), fun hl => absurd (show y < w.heap.size from hl) (by omega), fun hin => by first | (simp [BlkIn, nth, blkOf, vaddr] at hin; done) | (simp [BlkIn, nth, blkOf, vaddr] at hin; omega), fun _ => (hS8.same (shown_same h9)).ev.nr (.inl hy)⟩) (fun w9 h9 => ?_) ?_
    · exact (m21 (hS8.same (shown_same h9)).ev hS.wf (by omega) x.n hxo.n).mono (fun v w' ⟨p1, p2⟩ _ => ⟨[.bool (raiseB e x.n), .int .i64 (raiseC x.n)], ⟨⟨_, rfl⟩, ⟨_, rfl⟩, trivial⟩, p1, ⟨rfl, p2⟩, trivial⟩) fun _ _ h => h
    rintro w9 l wa h9 _ ⟨rfl, Va⟩ k9a
    have z89 : w8.heap.size ≤ w9.heap.size := h9.kept.size
    have Oa := (hS8.same (shown_same h9)).step (k9a.mono fun _ _ h => .inl h) Va (hS.wf.raise hxo.n) (fun x hx => by omega) (by omega)
    obtain ⟨eB, eR⟩ := raise_B e x.n
    have eL := raise_len e x.n
    have Oa' : Obj4 wa w.heap.size (fun x => x = b5) (Nx S w9 wa) b m (raiseE e x.n) (.slice Wa e.R.length Wc) (raiseE e x.n).R := by rw [eR]; exact Oa
    refine den_norm (by simp only [List.cons_append, List.nil_append]; rfl) (den_split (fun hq => ?_) (fun hq => ?_))
    · have hq' : raiseB e x.n = true := hq
      rw [if_pos hq'] at eL
      refine den_ob64 (by simp only [IE.den, nth, vint]; omega) (den_ob64 (by simp only [IE.den, nth, vint]; omega) (den_leaf' fun wz hz => (if_pos rfl).mpr ⟨⟨j + 1, d, _, m, raiseE e x.n, _, by omega, ?_, Oa'.same (shown_same hz), by omega, by omega⟩, ?_⟩))
      · rw [eB]
        have e1 : ((d + (raiseE e x.n).L.length : Nat) : Int) = ((d + e.L.length : Nat) : Int) + 1 := by omega
        rw [e1]
        rfl
      simp only [denL, SV.den, IE.den, nth, vint]; omega
    · have hq' : raiseB e x.n = false := hq
      rw [if_neg (by rw [hq']; decide)] at eL
      refine den_ob64 (by simp only [IE.den, nth, vint]; omega) (den_leaf' fun wz hz => (if_pos rfl).mpr ⟨⟨j + 1, d, _, m, raiseE e x.n, _, by omega, ?_, Oa'.same (shown_same hz), by omega, by omega⟩, ?_⟩)
      · rw [eB]
        have e1 : ((d + (raiseE e x.n).L.length : Nat) : Int) = ((d + e.L.length : Nat) : Int) := by omega
        rw [e1]
        rfl
      simp only [denL, SV.den, IE.den, nth, vint]; omega
  refine den_splitEq (fun hk => ?_) (fun hk2 => ?_)
  · refine den_callM (fun _ y => y = b ∨ y = m) (fun w9 l wa => ∃ oa oc, l = [.slice oa (dl e.L e.R e.B).out.length oc] ∧ Mine resE 49 wa (.slice oa (dl e.L e.R e.B).out.length oc) (dl e.L e.R e.B).out ∧ (∀ g, (Value.slice oa (dl e.L e.R e.B).out.length oc).ownBlock = some g → w9.heap.size ≤ g) ∧ EvS wa (Nx S w9 wa) b m (dlE e)) (fun w9 h9 y hy hlt => ⟨fun hd => (by cases hd), fun hl => absurd (show y < w.heap.size from hl) (by omega), fun hin => by first | (simp [BlkIn, nth, blkOf, vaddr] at hin; done) | (simp [BlkIn, nth, blkOf, vaddr] at hin; omega), fun _ => (hS7.same (shown_same h9)).ev.nr hy⟩) (fun w9 h9 => ?_) ?_
    · refine (m22 (hS7.same (shown_same h9)).ev hS.wf (by omega)).mono (fun v w' ⟨⟨p1, p2⟩, p3⟩ _ => ?_) fun _ _ h => h
      obtain ⟨oa, oc, rfl⟩ := p1.slice
      exact ⟨[.slice oa (dl e.L e.R e.B).out.length oc], ⟨⟨_, _, _, rfl⟩, trivial⟩, rfl, ⟨oa, oc, rfl, p1, fun g hg => (p2 g hg).1, p3⟩, trivial⟩
    rintro w9 l wa h9 _ ⟨oa, oc, rfl, hM, hOlo, Va⟩ k9a
    have z79 : w7.heap.size ≤ w9.heap.size := h9.kept.size
    have Oa := (hS7.same (shown_same h9)).step k9a Va hS.wf.dl (fun x hx => by omega) (by omega)
    have z9a : w9.heap.size ≤ wa.heap.size := k9a.size
    obtain ⟨sq1, sq2, sq3, sq4⟩ := dl_seq e.L e.R e.B fun n hn => ⟨(hS.wf.L n hn).1, valid8 (hS.wf.L n hn).2⟩
    have hol := dl_out e.L e.R e.B
    have hOb : ∀ g, (Value.slice oa (dl e.L e.R e.B).out.length oc).ownBlock = some g → g ≠ b5 := fun g hg => by have := hOlo g hg; omega
    refine den_norm (by simp only [List.cons_append, List.nil_append]; rfl) ?_
    refine den_loop (fun ls w' => ∃ (k : Nat) (Wv : Value), k ≤ (dl e.L e.R e.B).out.length ∧ ls = Wv :: .int .i64 ((d : Int) + (k : Int)) :: .int .i64 (k : Int) :: pgL (foldB ((dl e.L e.R e.B).out.take k) e.B) ∧ Obj4 w' w.heap.size (fun x => x = b5) (Nx S w9 wa) b m (dlE e) Wv (e.R.drop k) ∧ Mine resE 49 w' (.slice oa (dl e.L e.R e.B).out.length oc) (dl e.L e.R e.B).out) (fun ls _ => (dl e.L e.R e.B).out.length - (vint (nth ls 2)).toNat) (fun wb hb2 => ⟨0, .slice Wa e.R.length Wc, Nat.zero_le _, by simp [SV.den, denL, IE.den, BE.den, nth, vint, vbool, vaddr, addO, addr_add, pgL, pgQ, foldB], Oa.same (shown_same hb2), hM.same (shown_same hb2)⟩) ?_
    rintro wb l wc hb2 hfl2 ⟨k, Wv2, hk3, rfl, Kc, Mc⟩ hkc hfac
    obtain ⟨Wa2, Wc2, rfl⟩ := Kc.tl.slice
    refine den_norm (by simp only [List.cons_append, List.nil_append, pgL, pgQ]; rfl) (den_splitLt (fun hlk => ?_) (fun hgk => ?_))
    rotate_left
    · have hgk' : (dl e.L e.R e.B).out.length ≤ k := by simpa [IE.den, nth, vint, vlen] using hgk
      obtain rfl : k = (dl e.L e.R e.B).out.length := by omega
      have e0 : foldB ((dl e.L e.R e.B).out.take (dl e.L e.R e.B).out.length) e.B = (dlE e).B := by rw [List.take_length]; exact sq2
      have eR : e.R.drop (dl e.L e.R e.B).out.length = (dlE e).R := sq3.symm
      have eL : (dl e.L e.R e.B).out.length + (dlE e).L.length = e.L.length := sq4
      have Kd : Obj4 wc w.heap.size (fun x => x = b5) (Nx S w9 wa) b m (dlE e) (.slice Wa2 (e.R.drop (dl e.L e.R e.B).out.length).length Wc2) (dlE e).R := by rw [← eR]; exact Kc
      refine den_ob64 (by simp only [IE.den, nth, vint]; omega) (den_leaf' fun wz hz => (if_neg (by decide)).mpr ((if_pos rfl).mpr ⟨⟨j + 1, d + (dl e.L e.R e.B).out.length, _, m, dlE e, _, by omega, ?_, Kd.same (shown_same hz), by omega, by omega⟩, ?_⟩))
      · have e1 : ((d + (dl e.L e.R e.B).out.length + (dlE e).L.length : Nat) : Int) = ((d + e.L.length : Nat) : Int) := by omega
        have e2 : ((d + (dl e.L e.R e.B).out.length : Nat) : Int) = (d : Int) + ((dl e.L e.R e.B).out.length : Int) := by omega
        rw [← e0, e1, e2]
        rfl
      simp only [denL, SV.den, IE.den, nth, vint]; omega
    have hkl : k < (dl e.L e.R e.B).out.length := by simpa [IE.den, nth, vint, vlen] using hlk
    have hy : (dl e.L e.R e.B).out[k]? = some ((dl e.L e.R e.B).out[k]'hkl) := by simp
    generalize (dl e.L e.R e.B).out[k]'hkl = y at hy
    obtain ⟨hyR, hyB, hy0, hy1⟩ := sq1 k y hy
    have hyr : 0 ≤ y.2 ∧ y.2 < 16777216 := ⟨hy0, hy1⟩
    have hRd : e.R.drop k = y.1 :: e.R.drop (k + 1) := drop_cons hyR
    have hRl : (e.R.drop k).length = (e.R.drop (k + 1)).length + 1 := by rw [hRd]; rfl
    have hcap : (e.R.drop k).length ≤ Wc2 := Kc.tl.given.2.2.1
    refine den_idx2 (E := resE) (L := (dl e.L e.R e.B).out) y k [.int .u32 y.2] Mc.arr rfl (by decide) rfl hy ⟨⟨_, rfl⟩, trivial⟩ (fun mm v hv => by cases mm with | zero => cases hv; rfl | succ mm => simp at hv) (fun wd hd2 => (Mc.same (shown_same hd2)).arr) (fun ad had => by simp [BlkIn, nth, blkOf, vaddr]) (fun wd hd2 => den_norm (by simp only [List.cons_append, List.nil_append]; rfl) ?_)
    have Kd := Kc.same (shown_same hd2)
    have Md := Mc.same (shown_same hd2)
    have ob5 : ∀ ad, vaddr (Value.slice oa (dl e.L e.R e.B).out.length oc) = some ad → ad.block ≠ b5 := fun ad had => hOb _ (hM.own had)
    intro wg hg
    refine ⟨fun y => y = b5, fun y hy => by simp [BlkIn, nth, blkOf, vaddr] at hy; omega, ?_⟩
    have Kg := Kd.same (shown_same hg)
    have Mh := Md.same (shown_same hg)
    obtain ⟨adw, hadw, hcw⟩ := Kg.tl.arr.elem (j := 0) (x := y.1) (by rw [hRd]; rfl) (by decide)
    have hadw' : Wa2 = some adw := hadw
    have hwb5 : adw.block ≠ b5 := by
      have : (Value.slice Wa2 (e.R.drop k).length Wc2).ownBlock = some adw.block := by rw [hadw']; rfl
      exact (Kg.own _ this).2.1
    refine den_split_false (by simp only [BE.den, IE.den, nth, vlen]; exact decide_eq_false (by omega)) ?_
    refine den_ob (by simp only [BE.den, IE.den, nth, vlen]; exact decide_eq_true (by omega)) (den_ob (by simp [BE.den, nth, vnil, hadw']) ?_)
    refine den_load [.int .u16 y.1] adw ⟨⟨_, rfl⟩, trivial⟩ (by simp [SV.den, IE.den, nth, vaddr, hadw', addO, Addr.add]) (fun hX => hwb5 hX) (fun jj v hv => ?_) (den_norm (by simp only [List.cons_append, List.nil_append]; rfl) ?_)
    · cases jj with
      | zero =>
        have := hcw 0 v hv
        simpa [Addr.add] using this
      | succ jj => simp at hv
    refine den_idxD2 (E := resE) (L := (dl e.L e.R e.B).out) y k [.int .u16 y.1] rfl (by decide) rfl hy ⟨⟨_, rfl⟩, trivial⟩ (cell0 _ _ rfl) Mh.arr (fun ad had hin => ob5 ad had hin) (den_norm (by simp only [List.cons_append, List.nil_append]; rfl) ?_)
    refine den_split_false (by simp [BE.den, IE.den, nth, vint]) ?_
    have hrem : IntKind.i64.wrap (y.2.tmod 8) = y.2 % 8 := rem8 hyr
    refine den_ob (by simp only [BE.den, IE.den, nth, vint]; rw [rem8 hyr]; exact decide_eq_true (by omega)) (den_ob (by simp only [BE.den, IE.den, nth, vint]; rw [rem8 hyr]; exact decide_eq_true (by omega)) ?_)
    have hpz : ∀ t : Nat, y.2 % 8 = (t : Int) → pgOf (foldB ((dl e.L e.R e.B).out.take k) e.B) t = 0 := fun t ht => by
      unfold pgOf
      rw [← ht, hyB]
    refine den_splitEq (fun ht => ?_) (fun ht0 => ?_)
    · have ht' : y.2 % 8 = 0 := hrem.symm.trans ht
      refine den_split_false (by simp [BE.den, IE.den, nth, vint]; exact hpz 0 (by rw [ht']; rfl)) ?_
      refine den_start0 fun wh hh => den_slice Wa2 (e.R.drop k).length Wc2 (some (1 : Int)) none none 1 (e.R.drop k).length Wc2 1 u35 st37 (fun ρ h => h.1) (fun ρ h => congrArg some h.2.1) (fun _ _ => rfl) (fun _ _ => rfl) (.inl ⟨rfl, rfl⟩) (.inl ⟨rfl, rfl, rfl⟩) (.inr ⟨rfl, by omega⟩) (fun _ => rfl) ?_
      have Kh := Kg.same (shown_same hh)
      obtain ⟨tl1, tl2⟩ := Kh.tl.drop 1 (by omega)
      rw [List.drop_drop] at tl1
      obtain ⟨Wa3, Wc3, hs3⟩ := tl1.slice
      have hE1 : hE.sz = 1 := rfl
      rw [hE1] at hs3 tl1 tl2
      rw [hs3] at tl1 tl2 ⊢
      refine den_norm (by simp only [List.cons_append, List.nil_append]; rfl) (den_ob (by simp [BE.den, IE.den, nth, vint]) (den_ob (by simp [BE.den, IE.den, nth, vint, vlen]; exact hkl) ?_))
      intro wi hi
      have Mi := (Mh.same (shown_same hh)).same (shown_same hi)
      obtain ⟨adi, hadi, hci⟩ := Mi.arr.elem hy (by decide)
      refine den_load [.int .u32 y.2] ((adi.add (k * 2)).add 1) ⟨⟨_, rfl⟩, trivial⟩ (by have e1 : oa = some adi := hadi; subst e1; simp only [SV.den, nth, vaddr, addO, Option.map_some, IE.den, vint, Int.toNat_natCast]; rfl) (by simp [BlkIn, nth, blkOf, vaddr]) (fun mm v hv => by rw [add_add]; exact hci _ v (by cases mm with | zero => cases hv; rfl | succ mm => simp at hv)) (den_norm (by simp only [List.cons_append, List.nil_append]; rfl) ?_)
      have Ki := Kh.same (shown_same hi)
      have hp : foldB ((dl e.L e.R e.B).out.take (k + 1)) e.B = upd (foldB ((dl e.L e.R e.B).out.take k) e.B) (y.2 % 8) (y.2 / 65536) := by rw [List.take_add_one, hy]; exact foldB_snoc _ _ _
      refine den_ob64 (by simp only [IE.den, nth, vint, IntKind.bits]; rw [shr16 hyr]; omega) ?_
      refine den_ob (by simp only [BE.den, IE.den, nth, vint]; rw [rem8 hyr]; exact decide_eq_true (by omega)) (den_ob (by simp only [BE.den, IE.den, nth, vint]; rw [rem8 hyr]; exact decide_eq_true (by omega)) ?_)
      refine den_ob64 (by simp only [IE.den, nth, vint]; omega) (den_ob64 (by simp only [IE.den, nth, vint]; omega) (den_leaf' fun wz hz => (if_pos rfl).mpr ⟨⟨k + 1, .slice Wa3 (e.R.drop (k + 1)).length Wc3, by omega, ?_, ⟨Ki.ev.kept hz.kept fun x hx hm => by have := Ki.sl x hx; simp [BlkIn, nth, blkOf, vaddr] at hm; omega, Ki.wf, (tl1.same (shown_same hi)).kept hz.kept fun g hg hm => by rw [tl2] at hg; have := Ki.own g hg; simp [BlkIn, nth, blkOf, vaddr] at hm; omega, fun g hg => Ki.own g (tl2 ▸ hg), Ki.sl⟩, (Mi.kept hz.kept fun g hg hm => by have := hOb g hg; simp [BlkIn, nth, blkOf, vaddr] at hm; omega)⟩, ?_⟩))
      · rw [hp]
        simp only [pgL, pgQ, pgOf_upd, ht']
        simp only [denL, SV.den, IE.den, nth, vint, IntKind.bits]
        rw [shr16 hyr]
        rfl
      simp only [denL, SV.den, IE.den, nth, vint]; omega
    refine den_splitEq (fun ht => ?_) (fun ht1 => ?_)
    · have ht' : y.2 % 8 = 1 := hrem.symm.trans ht
      refine den_split_false (by simp [BE.den, IE.den, nth, vint]; exact hpz 1 (by rw [ht']; rfl)) ?_
      refine den_start0 fun wh hh => den_slice Wa2 (e.R.drop k).length Wc2 (some (1 : Int)) none none 1 (e.R.drop k).length Wc2 1 u35 st37 (fun ρ h => h.1) (fun ρ h => congrArg some h.2.1) (fun _ _ => rfl) (fun _ _ => rfl) (.inl ⟨rfl, rfl⟩) (.inl ⟨rfl, rfl, rfl⟩) (.inr ⟨rfl, by omega⟩) (fun _ => rfl) ?_
      have Kh := Kg.same (shown_same hh)
      obtain ⟨tl1, tl2⟩ := Kh.tl.drop 1 (by omega)
      rw [List.drop_drop] at tl1
      obtain ⟨Wa3, Wc3, hs3⟩ := tl1.slice
      have hE1 : hE.sz = 1 := rfl
      rw [hE1] at hs3 tl1 tl2
      rw [hs3] at tl1 tl2 ⊢
      refine den_norm (by simp only [List.cons_append, List.nil_append]; rfl) (den_ob (by simp [BE.den, IE.den, nth, vint]) (den_ob (by simp [BE.den, IE.den, nth, vint, vlen]; exact hkl) ?_))
      intro wi hi
      have Mi := (Mh.same (shown_same hh)).same (shown_same hi)
      obtain ⟨adi, hadi, hci⟩ := Mi.arr.elem hy (by decide)
      refine den_load [.int .u32 y.2] ((adi.add (k * 2)).add 1) ⟨⟨_, rfl⟩, trivial⟩ (by have e1 : oa = some adi := hadi; subst e1; simp only [SV.den, nth, vaddr, addO, Option.map_some, IE.den, vint, Int.toNat_natCast]; rfl) (by simp [BlkIn, nth, blkOf, vaddr]) (fun mm v hv => by rw [add_add]; exact hci _ v (by cases mm with | zero => cases hv; rfl | succ mm => simp at hv)) (den_norm (by simp only [List.cons_append, List.nil_append]; rfl) ?_)
      have Ki := Kh.same (shown_same hi)
      have hp : foldB ((dl e.L e.R e.B).out.take (k + 1)) e.B = upd (foldB ((dl e.L e.R e.B).out.take k) e.B) (y.2 % 8) (y.2 / 65536) := by rw [List.take_add_one, hy]; exact foldB_snoc _ _ _
      refine den_ob64 (by simp only [IE.den, nth, vint, IntKind.bits]; rw [shr16 hyr]; omega) ?_
      refine den_ob (by simp only [BE.den, IE.den, nth, vint]; rw [rem8 hyr]; exact decide_eq_true (by omega)) (den_ob (by simp only [BE.den, IE.den, nth, vint]; rw [rem8 hyr]; exact decide_eq_true (by omega)) ?_)
      refine den_ob64 (by simp only [IE.den, nth, vint]; omega) (den_ob64 (by simp only [IE.den, nth, vint]; omega) (den_leaf' fun wz hz => (if_pos rfl).mpr ⟨⟨k + 1, .slice Wa3 (e.R.drop (k + 1)).length Wc3, by omega, ?_, ⟨Ki.ev.kept hz.kept fun x hx hm => by have := Ki.sl x hx; simp [BlkIn, nth, blkOf, vaddr] at hm; omega, Ki.wf, (tl1.same (shown_same hi)).kept hz.kept fun g hg hm => by rw [tl2] at hg; have := Ki.own g hg; simp [BlkIn, nth, blkOf, vaddr] at hm; omega, fun g hg => Ki.own g (tl2 ▸ hg), Ki.sl⟩, (Mi.kept hz.kept fun g hg hm => by have := hOb g hg; simp [BlkIn, nth, blkOf, vaddr] at hm; omega)⟩, ?_⟩))
      · rw [hp]
        simp only [pgL, pgQ, pgOf_upd, ht']
        simp only [denL, SV.den, IE.den, nth, vint, IntKind.bits]
        rw [shr16 hyr]
        rfl
      simp only [denL, SV.den, IE.den, nth, vint]; omega
    refine den_splitEq (fun ht => ?_) (fun ht2 => ?_)
    · have ht' : y.2 % 8 = 2 := hrem.symm.trans ht
      refine den_split_false (by simp [BE.den, IE.den, nth, vint]; exact hpz 2 (by rw [ht']; rfl)) ?_
      refine den_start0 fun wh hh => den_slice Wa2 (e.R.drop k).length Wc2 (some (1 : Int)) none none 1 (e.R.drop k).length Wc2 1 u35 st37 (fun ρ h => h.1) (fun ρ h => congrArg some h.2.1) (fun _ _ => rfl) (fun _ _ => rfl) (.inl ⟨rfl, rfl⟩) (.inl ⟨rfl, rfl, rfl⟩) (.inr ⟨rfl, by omega⟩) (fun _ => rfl) ?_
      have Kh := Kg.same (shown_same hh)
      obtain ⟨tl1, tl2⟩ := Kh.tl.drop 1 (by omega)
      rw [List.drop_drop] at tl1
      obtain ⟨Wa3, Wc3, hs3⟩ := tl1.slice
      have hE1 : hE.sz = 1 := rfl
      rw [hE1] at hs3 tl1 tl2
      rw [hs3] at tl1 tl2 ⊢
      refine den_norm (by simp only [List.cons_append, List.nil_append]; rfl) (den_ob (by simp [BE.den, IE.den, nth, vint]) (den_ob (by simp [BE.den, IE.den, nth, vint, vlen]; exact hkl) ?_))
      intro wi hi
      have Mi := (Mh.same (shown_same hh)).same (shown_same hi)
      obtain ⟨adi, hadi, hci⟩ := Mi.arr.elem hy (by decide)
      refine den_load [.int .u32 y.2] ((adi.add (k * 2)).add 1) ⟨⟨_, rfl⟩, trivial⟩ (by have e1 : oa = some adi := hadi; subst e1; simp only [SV.den, nth, vaddr, addO, Option.map_some, IE.den, vint, Int.toNat_natCast]; rfl) (by simp [BlkIn, nth, blkOf, vaddr]) (fun mm v hv => by rw [add_add]; exact hci _ v (by cases mm with | zero => cases hv; rfl | succ mm => simp at hv)) (den_norm (by simp only [List.cons_append, List.nil_append]; rfl) ?_)
      have Ki := Kh.same (shown_same hi)
      have hp : foldB ((dl e.L e.R e.B).out.take (k + 1)) e.B = upd (foldB ((dl e.L e.R e.B).out.take k) e.B) (y.2 % 8) (y.2 / 65536) := by rw [List.take_add_one, hy]; exact foldB_snoc _ _ _
      refine den_ob64 (by simp only [IE.den, nth, vint, IntKind.bits]; rw [shr16 hyr]; omega) ?_
      refine den_ob (by simp only [BE.den, IE.den, nth, vint]; rw [rem8 hyr]; exact decide_eq_true (by omega)) (den_ob (by simp only [BE.den, IE.den, nth, vint]; rw [rem8 hyr]; exact decide_eq_true (by omega)) ?_)
      refine den_ob64 (by simp only [IE.den, nth, vint]; omega) (den_ob64 (by simp only [IE.den, nth, vint]; omega) (den_leaf' fun wz hz => (if_pos rfl).mpr ⟨⟨k + 1, .slice Wa3 (e.R.drop (k + 1)).length Wc3, by omega, ?_, ⟨Ki.ev.kept hz.kept fun x hx hm => by have := Ki.sl x hx; simp [BlkIn, nth, blkOf, vaddr] at hm; omega, Ki.wf, (tl1.same (shown_same hi)).kept hz.kept fun g hg hm => by rw [tl2] at hg; have := Ki.own g hg; simp [BlkIn, nth, blkOf, vaddr] at hm; omega, fun g hg => Ki.own g (tl2 ▸ hg), Ki.sl⟩, (Mi.kept hz.kept fun g hg hm => by have := hOb g hg; simp [BlkIn, nth, blkOf, vaddr] at hm; omega)⟩, ?_⟩))
      · rw [hp]
        simp only [pgL, pgQ, pgOf_upd, ht']
        simp only [denL, SV.den, IE.den, nth, vint, IntKind.bits]
        rw [shr16 hyr]
        rfl
      simp only [denL, SV.den, IE.den, nth, vint]; omega
    refine den_splitEq (fun ht => ?_) (fun ht3 => ?_)
    · have ht' : y.2 % 8 = 3 := hrem.symm.trans ht
      refine den_split_false (by simp [BE.den, IE.den, nth, vint]; exact hpz 3 (by rw [ht']; rfl)) ?_
      refine den_start0 fun wh hh => den_slice Wa2 (e.R.drop k).length Wc2 (some (1 : Int)) none none 1 (e.R.drop k).length Wc2 1 u35 st37 (fun ρ h => h.1) (fun ρ h => congrArg some h.2.1) (fun _ _ => rfl) (fun _ _ => rfl) (.inl ⟨rfl, rfl⟩) (.inl ⟨rfl, rfl, rfl⟩) (.inr ⟨rfl, by omega⟩) (fun _ => rfl) ?_
      have Kh := Kg.same (shown_same hh)
      obtain ⟨tl1, tl2⟩ := Kh.tl.drop 1 (by omega)
      rw [List.drop_drop] at tl1
      obtain ⟨Wa3, Wc3, hs3⟩ := tl1.slice
      have hE1 : hE.sz = 1 := rfl
      rw [hE1] at hs3 tl1 tl2
      rw [hs3] at tl1 tl2 ⊢
      refine den_norm (by simp only [List.cons_append, List.nil_append]; rfl) (den_ob (by simp [BE.den, IE.den, nth, vint]) (den_ob (by simp [BE.den, IE.den, nth, vint, vlen]; exact hkl) ?_))
      intro wi hi
      have Mi := (Mh.same (shown_same hh)).same (shown_same hi)
      obtain ⟨adi, hadi, hci⟩ := Mi.arr.elem hy (by decide)
      refine den_load [.int .u32 y.2] ((adi.add (k * 2)).add 1) ⟨⟨_, rfl⟩, trivial⟩ (by have e1 : oa = some adi := hadi; subst e1; simp only [SV.den, nth, vaddr, addO, Option.map_some, IE.den, vint, Int.toNat_natCast]; rfl) (by simp [BlkIn, nth, blkOf, vaddr]) (fun mm v hv => by rw [add_add]; exact hci _ v (by cases mm with | zero => cases hv; rfl | succ mm => simp at hv)) (den_norm (by simp only [List.cons_append, List.nil_append]; rfl) ?_)
      have Ki := Kh.same (shown_same hi)
      have hp : foldB ((dl e.L e.R e.B).out.take (k + 1)) e.B = upd (foldB ((dl e.L e.R e.B).out.take k) e.B) (y.2 % 8) (y.2 / 65536) := by rw [List.take_add_one, hy]; exact foldB_snoc _ _ _
      refine den_ob64 (by simp only [IE.den, nth, vint, IntKind.bits]; rw [shr16 hyr]; omega) ?_
      refine den_ob (by simp only [BE.den, IE.den, nth, vint]; rw [rem8 hyr]; exact decide_eq_true (by omega)) (den_ob (by simp only [BE.den, IE.den, nth, vint]; rw [rem8 hyr]; exact decide_eq_true (by omega)) ?_)
      refine den_ob64 (by simp only [IE.den, nth, vint]; omega) (den_ob64 (by simp only [IE.den, nth, vint]; omega) (den_leaf' fun wz hz => (if_pos rfl).mpr ⟨⟨k + 1, .slice Wa3 (e.R.drop (k + 1)).length Wc3, by omega, ?_, ⟨Ki.ev.kept hz.kept fun x hx hm => by have := Ki.sl x hx; simp [BlkIn, nth, blkOf, vaddr] at hm; omega, Ki.wf, (tl1.same (shown_same hi)).kept hz.kept fun g hg hm => by rw [tl2] at hg; have := Ki.own g hg; simp [BlkIn, nth, blkOf, vaddr] at hm; omega, fun g hg => Ki.own g (tl2 ▸ hg), Ki.sl⟩, (Mi.kept hz.kept fun g hg hm => by have := hOb g hg; simp [BlkIn, nth, blkOf, vaddr] at hm; omega)⟩, ?_⟩))
      · rw [hp]
        simp only [pgL, pgQ, pgOf_upd, ht']
        simp only [denL, SV.den, IE.den, nth, vint, IntKind.bits]
        rw [shr16 hyr]
        rfl
      simp only [denL, SV.den, IE.den, nth, vint]; omega
    refine den_splitEq (fun ht => ?_) (fun ht4 => ?_)
    · have ht' : y.2 % 8 = 4 := hrem.symm.trans ht
      refine den_split_false (by simp [BE.den, IE.den, nth, vint]; exact hpz 4 (by rw [ht']; rfl)) ?_
      refine den_start0 fun wh hh => den_slice Wa2 (e.R.drop k).length Wc2 (some (1 : Int)) none none 1 (e.R.drop k).length Wc2 1 u35 st37 (fun ρ h => h.1) (fun ρ h => congrArg some h.2.1) (fun _ _ => rfl) (fun _ _ => rfl) (.inl ⟨rfl, rfl⟩) (.inl ⟨rfl, rfl, rfl⟩) (.inr ⟨rfl, by omega⟩) (fun _ => rfl) ?_
      have Kh := Kg.same (shown_same hh)
      obtain ⟨tl1, tl2⟩ := Kh.tl.drop 1 (by omega)
      rw [List.drop_drop] at tl1
      obtain ⟨Wa3, Wc3, hs3⟩ := tl1.slice
      have hE1 : hE.sz = 1 := rfl
      rw [hE1] at hs3 tl1 tl2
      rw [hs3] at tl1 tl2 ⊢
      refine den_norm (by simp only [List.cons_append, List.nil_append]; rfl) (den_ob (by simp [BE.den, IE.den, nth, vint]) (den_ob (by simp [BE.den, IE.den, nth, vint, vlen]; exact hkl) ?_))
      intro wi hi
      have Mi := (Mh.same (shown_same hh)).same (shown_same hi)
      obtain ⟨adi, hadi, hci⟩ := Mi.arr.elem hy (by decide)
      refine den_load [.int .u32 y.2] ((adi.add (k * 2)).add 1) ⟨⟨_, rfl⟩, trivial⟩ (by have e1 : oa = some adi := hadi; subst e1; simp only [SV.den, nth, vaddr, addO, Option.map_some, IE.den, vint, Int.toNat_natCast]; rfl) (by simp [BlkIn, nth, blkOf, vaddr]) (fun mm v hv => by rw [add_add]; exact hci _ v (by cases mm with | zero => cases hv; rfl | succ mm => simp at hv)) (den_norm (by simp only [List.cons_append, List.nil_append]; rfl) ?_)
      have Ki := Kh.same (shown_same hi)
      have hp : foldB ((dl e.L e.R e.B).out.take (k + 1)) e.B = upd (foldB ((dl e.L e.R e.B).out.take k) e.B) (y.2 % 8) (y.2 / 65536) := by rw [List.take_add_one, hy]; exact foldB_snoc _ _ _
      refine den_ob64 (by simp only [IE.den, nth, vint, IntKind.bits]; rw [shr16 hyr]; omega) ?_
      refine den_ob (by simp only [BE.den, IE.den, nth, vint]; rw [rem8 hyr]; exact decide_eq_true (by omega)) (den_ob (by simp only [BE.den, IE.den, nth, vint]; rw [rem8 hyr]; exact decide_eq_true (by omega)) ?_)
      refine den_ob64 (by simp only [IE.den, nth, vint]; omega) (den_ob64 (by simp only [IE.den, nth, vint]; omega) (den_leaf' fun wz hz => (if_pos rfl).mpr ⟨⟨k + 1, .slice Wa3 (e.R.drop (k + 1)).length Wc3, by omega, ?_, ⟨Ki.ev.kept hz.kept fun x hx hm => by have := Ki.sl x hx; simp [BlkIn, nth, blkOf, vaddr] at hm; omega, Ki.wf, (tl1.same (shown_same hi)).kept hz.kept fun g hg hm => by rw [tl2] at hg; have := Ki.own g hg; simp [BlkIn, nth, blkOf, vaddr] at hm; omega, fun g hg => Ki.own g (tl2 ▸ hg), Ki.sl⟩, (Mi.kept hz.kept fun g hg hm => by have := hOb g hg; simp [BlkIn, nth, blkOf, vaddr] at hm; omega)⟩, ?_⟩))
      · rw [hp]
        simp only [pgL, pgQ, pgOf_upd, ht']
        simp only [denL, SV.den, IE.den, nth, vint, IntKind.bits]
        rw [shr16 hyr]
        rfl
      simp only [denL, SV.den, IE.den, nth, vint]; omega
    refine den_splitEq (fun ht => ?_) (fun ht5 => ?_)
    · have ht' : y.2 % 8 = 5 := hrem.symm.trans ht
      refine den_split_false (by simp [BE.den, IE.den, nth, vint]; exact hpz 5 (by rw [ht']; rfl)) ?_
      refine den_start0 fun wh hh => den_slice Wa2 (e.R.drop k).length Wc2 (some (1 : Int)) none none 1 (e.R.drop k).length Wc2 1 u35 st37 (fun ρ h => h.1) (fun ρ h => congrArg some h.2.1) (fun _ _ => rfl) (fun _ _ => rfl) (.inl ⟨rfl, rfl⟩) (.inl ⟨rfl, rfl, rfl⟩) (.inr ⟨rfl, by omega⟩) (fun _ => rfl) ?_
      have Kh := Kg.same (shown_same hh)
      obtain ⟨tl1, tl2⟩ := Kh.tl.drop 1 (by omega)
      rw [List.drop_drop] at tl1
      obtain ⟨Wa3, Wc3, hs3⟩ := tl1.slice
      have hE1 : hE.sz = 1 := rfl
      rw [hE1] at hs3 tl1 tl2
      rw [hs3] at tl1 tl2 ⊢
      refine den_norm (by simp only [List.cons_append, List.nil_append]; rfl) (den_ob (by simp [BE.den, IE.den, nth, vint]) (den_ob (by simp [BE.den, IE.den, nth, vint, vlen]; exact hkl) ?_))
      intro wi hi
      have Mi := (Mh.same (shown_same hh)).same (shown_same hi)
      obtain ⟨adi, hadi, hci⟩ := Mi.arr.elem hy (by decide)
      refine den_load [.int .u32 y.2] ((adi.add (k * 2)).add 1) ⟨⟨_, rfl⟩, trivial⟩ (by have e1 : oa = some adi := hadi; subst e1; simp only [SV.den, nth, vaddr, addO, Option.map_some, IE.den, vint, Int.toNat_natCast]; rfl) (by simp [BlkIn, nth, blkOf, vaddr]) (fun mm v hv => by rw [add_add]; exact hci _ v (by cases mm with | zero => cases hv; rfl | succ mm => simp at hv)) (den_norm (by simp only [List.cons_append, List.nil_append]; rfl) ?_)
      have Ki := Kh.same (shown_same hi)
      have hp : foldB ((dl e.L e.R e.B).out.take (k + 1)) e.B = upd (foldB ((dl e.L e.R e.B).out.take k) e.B) (y.2 % 8) (y.2 / 65536) := by rw [List.take_add_one, hy]; exact foldB_snoc _ _ _
      refine den_ob64 (by simp only [IE.den, nth, vint, IntKind.bits]; rw [shr16 hyr]; omega) ?_
      refine den_ob (by simp only [BE.den, IE.den, nth, vint]; rw [rem8 hyr]; exact decide_eq_true (by omega)) (den_ob (by simp only [BE.den, IE.den, nth, vint]; rw [rem8 hyr]; exact decide_eq_true (by omega)) ?_)
      refine den_ob64 (by simp only [IE.den, nth, vint]; omega) (den_ob64 (by simp only [IE.den, nth, vint]; omega) (den_leaf' fun wz hz => (if_pos rfl).mpr ⟨⟨k + 1, .slice Wa3 (e.R.drop (k + 1)).length Wc3, by omega, ?_, ⟨Ki.ev.kept hz.kept fun x hx hm => by have := Ki.sl x hx; simp [BlkIn, nth, blkOf, vaddr] at hm; omega, Ki.wf, (tl1.same (shown_same hi)).kept hz.kept fun g hg hm => by rw [tl2] at hg; have := Ki.own g hg; simp [BlkIn, nth, blkOf, vaddr] at hm; omega, fun g hg => Ki.own g (tl2 ▸ hg), Ki.sl⟩, (Mi.kept hz.kept fun g hg hm => by have := hOb g hg; simp [BlkIn, nth, blkOf, vaddr] at hm; omega)⟩, ?_⟩))
      · rw [hp]
        simp only [pgL, pgQ, pgOf_upd, ht']
        simp only [denL, SV.den, IE.den, nth, vint, IntKind.bits]
        rw [shr16 hyr]
        rfl
      simp only [denL, SV.den, IE.den, nth, vint]; omega
    refine den_splitEq (fun ht => ?_) (fun ht6 => ?_)
    · have ht' : y.2 % 8 = 6 := hrem.symm.trans ht
      refine den_split_false (by simp [BE.den, IE.den, nth, vint]; exact hpz 6 (by rw [ht']; rfl)) ?_
      refine den_start0 fun wh hh => den_slice Wa2 (e.R.drop k).length Wc2 (some (1 : Int)) none none 1 (e.R.drop k).length Wc2 1 u35 st37 (fun ρ h => h.1) (fun ρ h => congrArg some h.2.1) (fun _ _ => rfl) (fun _ _ => rfl) (.inl ⟨rfl, rfl⟩) (.inl ⟨rfl, rfl, rfl⟩) (.inr ⟨rfl, by omega⟩) (fun _ => rfl) ?_
      have Kh := Kg.same (shown_same hh)
      obtain ⟨tl1, tl2⟩ := Kh.tl.drop 1 (by omega)
      rw [List.drop_drop] at tl1
      obtain ⟨Wa3, Wc3, hs3⟩ := tl1.slice
      have hE1 : hE.sz = 1 := rfl
      rw [hE1] at hs3 tl1 tl2
      rw [hs3] at tl1 tl2 ⊢
      refine den_norm (by simp only [List.cons_append, List.nil_append]; rfl) (den_ob (by simp [BE.den, IE.den, nth, vint]) (den_ob (by simp [BE.den, IE.den, nth, vint, vlen]; exact hkl) ?_))
      intro wi hi
      have Mi := (Mh.same (shown_same hh)).same (shown_same hi)
      obtain ⟨adi, hadi, hci⟩ := Mi.arr.elem hy (by decide)
      refine den_load [.int .u32 y.2] ((adi.add (k * 2)).add 1) ⟨⟨_, rfl⟩, trivial⟩ (by have e1 : oa = some adi := hadi; subst e1; simp only [SV.den, nth, vaddr, addO, Option.map_some, IE.den, vint, Int.toNat_natCast]; rfl) (by simp [BlkIn, nth, blkOf, vaddr]) (fun mm v hv => by rw [add_add]; exact hci _ v (by cases mm with | zero => cases hv; rfl | succ mm => simp at hv)) (den_norm (by simp only [List.cons_append, List.nil_append]; rfl) ?_)
      have Ki := Kh.same (shown_same hi)
      have hp : foldB ((dl e.L e.R e.B).out.take (k + 1)) e.B = upd (foldB ((dl e.L e.R e.B).out.take k) e.B) (y.2 % 8) (y.2 / 65536) := by rw [List.take_add_one, hy]; exact foldB_snoc _ _ _
      refine den_ob64 (by simp only [IE.den, nth, vint, IntKind.bits]; rw [shr16 hyr]; omega) ?_
      refine den_ob (by simp only [BE.den, IE.den, nth, vint]; rw [rem8 hyr]; exact decide_eq_true (by omega)) (den_ob (by simp only [BE.den, IE.den, nth, vint]; rw [rem8 hyr]; exact decide_eq_true (by omega)) ?_)
      refine den_ob64 (by simp only [IE.den, nth, vint]; omega) (den_ob64 (by simp only [IE.den, nth, vint]; omega) (den_leaf' fun wz hz => (if_pos rfl).mpr ⟨⟨k + 1, .slice Wa3 (e.R.drop (k + 1)).length Wc3, by omega, ?_, ⟨Ki.ev.kept hz.kept fun x hx hm => by have := Ki.sl x hx; simp [BlkIn, nth, blkOf, vaddr] at hm; omega, Ki.wf, (tl1.same (shown_same hi)).kept hz.kept fun g hg hm => by rw [tl2] at hg; have := Ki.own g hg; simp [BlkIn, nth, blkOf, vaddr] at hm; omega, fun g hg => Ki.own g (tl2 ▸ hg), Ki.sl⟩, (Mi.kept hz.kept fun g hg hm => by have := hOb g hg; simp [BlkIn, nth, blkOf, vaddr] at hm; omega)⟩, ?_⟩))
      · rw [hp]
        simp only [pgL, pgQ, pgOf_upd, ht']
        simp only [denL, SV.den, IE.den, nth, vint, IntKind.bits]
        rw [shr16 hyr]
        rfl
      simp only [denL, SV.den, IE.den, nth, vint]; omega
    refine den_splitEq (fun ht => ?_) (fun ht7 => ?_)
    · have ht' : y.2 % 8 = 7 := hrem.symm.trans ht
      refine den_split_false (by simp [BE.den, IE.den, nth, vint]; exact hpz 7 (by rw [ht']; rfl)) ?_
      refine den_start0 fun wh hh => den_slice Wa2 (e.R.drop k).length Wc2 (some (1 : Int)) none none 1 (e.R.drop k).length Wc2 1 u35 st37 (fun ρ h => h.1) (fun ρ h => congrArg some h.2.1) (fun _ _ => rfl) (fun _ _ => rfl) (.inl ⟨rfl, rfl⟩) (.inl ⟨rfl, rfl, rfl⟩) (.inr ⟨rfl, by omega⟩) (fun _ => rfl) ?_
      have Kh := Kg.same (shown_same hh)
      obtain ⟨tl1, tl2⟩ := Kh.tl.drop 1 (by omega)
      rw [List.drop_drop] at tl1
      obtain ⟨Wa3, Wc3, hs3⟩ := tl1.slice
      have hE1 : hE.sz = 1 := rfl
      rw [hE1] at hs3 tl1 tl2
      rw [hs3] at tl1 tl2 ⊢
      refine den_norm (by simp only [List.cons_append, List.nil_append]; rfl) (den_ob (by simp [BE.den, IE.den, nth, vint]) (den_ob (by simp [BE.den, IE.den, nth, vint, vlen]; exact hkl) ?_))
      intro wi hi
      have Mi := (Mh.same (shown_same hh)).same (shown_same hi)
      obtain ⟨adi, hadi, hci⟩ := Mi.arr.elem hy (by decide)
      refine den_load [.int .u32 y.2] ((adi.add (k * 2)).add 1) ⟨⟨_, rfl⟩, trivial⟩ (by have e1 : oa = some adi := hadi; subst e1; simp only [SV.den, nth, vaddr, addO, Option.map_some, IE.den, vint, Int.toNat_natCast]; rfl) (by simp [BlkIn, nth, blkOf, vaddr]) (fun mm v hv => by rw [add_add]; exact hci _ v (by cases mm with | zero => cases hv; rfl | succ mm => simp at hv)) (den_norm (by simp only [List.cons_append, List.nil_append]; rfl) ?_)
      have Ki := Kh.same (shown_same hi)
      have hp : foldB ((dl e.L e.R e.B).out.take (k + 1)) e.B = upd (foldB ((dl e.L e.R e.B).out.take k) e.B) (y.2 % 8) (y.2 / 65536) := by rw [List.take_add_one, hy]; exact foldB_snoc _ _ _
      refine den_ob64 (by simp only [IE.den, nth, vint, IntKind.bits]; rw [shr16 hyr]; omega) ?_
      refine den_ob (by simp only [BE.den, IE.den, nth, vint]; rw [rem8 hyr]; exact decide_eq_true (by omega)) (den_ob (by simp only [BE.den, IE.den, nth, vint]; rw [rem8 hyr]; exact decide_eq_true (by omega)) ?_)
      refine den_ob64 (by simp only [IE.den, nth, vint]; omega) (den_ob64 (by simp only [IE.den, nth, vint]; omega) (den_leaf' fun wz hz => (if_pos rfl).mpr ⟨⟨k + 1, .slice Wa3 (e.R.drop (k + 1)).length Wc3, by omega, ?_, ⟨Ki.ev.kept hz.kept fun x hx hm => by have := Ki.sl x hx; simp [BlkIn, nth, blkOf, vaddr] at hm; omega, Ki.wf, (tl1.same (shown_same hi)).kept hz.kept fun g hg hm => by rw [tl2] at hg; have := Ki.own g hg; simp [BlkIn, nth, blkOf, vaddr] at hm; omega, fun g hg => Ki.own g (tl2 ▸ hg), Ki.sl⟩, (Mi.kept hz.kept fun g hg hm => by have := hOb g hg; simp [BlkIn, nth, blkOf, vaddr] at hm; omega)⟩, ?_⟩))
      · rw [hp]
        simp only [pgL, pgQ, pgOf_upd, ht']
        simp only [denL, SV.den, IE.den, nth, vint, IntKind.bits]
        rw [shr16 hyr]
        rfl
      simp only [denL, SV.den, IE.den, nth, vint]; omega
    exfalso
    have q0 : y.2 % 8 ≠ 0 := fun h => ht0 (hrem.trans h)
    have q1 : y.2 % 8 ≠ 1 := fun h => ht1 (hrem.trans h)
    have q2 : y.2 % 8 ≠ 2 := fun h => ht2 (hrem.trans h)
    have q3 : y.2 % 8 ≠ 3 := fun h => ht3 (hrem.trans h)
    have q4 : y.2 % 8 ≠ 4 := fun h => ht4 (hrem.trans h)
    have q5 : y.2 % 8 ≠ 5 := fun h => ht5 (hrem.trans h)
    have q6 : y.2 % 8 ≠ 6 := fun h => ht6 (hrem.trans h)
    have q7 : y.2 % 8 ≠ 7 := fun h => ht7 (hrem.trans h)
    omega
  refine den_splitEq (fun hk => ?_) (fun hk3 => ?_)
  · refine o1 rfl rfl ?_
    intro w8 h8
    obtain ⟨adw8, hadw8, hcw8⟩ := (hA7.same (shown_same h8)).1.elem hx (by decide)
    refine den_load [.int .u8 x.n.p] ((adw8.add (j * 6)).add 4) ⟨⟨_, rfl⟩, trivial⟩ (by have e1 : a = some adw8 := hadw8; subst e1; simp only [SV.den, nth, vaddr, addO, Option.map_some, IE.den, vint, Int.toNat_natCast]; rfl) (by simp [BlkIn, nth, blkOf, vaddr]) (fun mm v hv => by rw [add_add]; exact hcw8 _ v (by cases mm with | zero => cases hv; rfl | succ mm => simp at hv)) (den_norm (by simp only [List.cons_append, List.nil_append]; rfl) ?_)
    have hS8 := hS7.same (shown_same h8)
    have z78 : w7.heap.size ≤ w8.heap.size := h8.kept.size
    refine den_callM (fun _ y => y = m) (fun w9 l wa => l = [.int .i64 0] ∧ EvS wa (Nx S w9 wa) b m (readE e x.n.p)) (fun w9 h9 y hy hlt => ⟨fun hd => (by cases hd), fun hl => absurd (show y < w.heap.size from hl) (by omega), fun hin => by first | (simp [BlkIn, nth, blkOf, vaddr] at hin; done) | (simp [BlkIn, nth, blkOf, vaddr] at hin; omega), fun _ => (hS8.same (shown_same h9)).ev.nr (.inr hy)⟩) (fun w9 h9 => ?_) ?_
    · exact (m23 (hS8.same (shown_same h9)).ev hS.wf x.n.p).mono (fun v w' ⟨p1, p2⟩ _ => ⟨[.int .i64 0], ⟨⟨_, rfl⟩, trivial⟩, p1, ⟨rfl, p2⟩, trivial⟩) fun _ _ h => h
    rintro w9 l wa h9 _ ⟨rfl, Va⟩ k9a
    have z89 : w8.heap.size ≤ w9.heap.size := h9.kept.size
    have Oa := (hS8.same (shown_same h9)).step (k9a.mono fun _ _ h => .inr h) Va (hS.wf.read x.n.p) (fun x hx => by omega) (by omega)
    have z9a : w9.heap.size ≤ wa.heap.size := k9a.size
    have hpp := hxo.n.p
    have wrp : IntKind.i64.wrap x.n.p = x.n.p := by rw [IntKind.wrap_i64]; omega
    refine den_norm (by simp only [List.cons_append, List.nil_append]; rfl) (den_split_false rfl ?_)
    refine den_loop (fun ls w' => ∃ (t : Nat) (Q : Nat → Int), t ≤ 8 ∧ ls = .int .i64 (t : Int) :: pgQ Q ∧ (∀ i, i < 8 → Q i = if i < t then pgOf (readB e.B x.n.p) i else pgOf e.B i) ∧ Obj4 w' w.heap.size (fun x => x = b5) (Nx S w9 wa) b m (readE e x.n.p) (.slice Wa e.R.length Wc) e.R) (fun ls _ => 8 - (vint (nth ls 0)).toNat) (fun wb hb2 => ⟨0, pgOf e.B, by omega, by simp [SV.den, denL, IE.den, BE.den, nth, vint, vbool, vaddr, addO, addr_add, pgQ], fun i hi => by rw [if_neg (by omega)], Oa.same (shown_same hb2)⟩) ?_
    rintro wb l wc hb2 hfl2 ⟨t, Q, ht8, rfl, hQ, Kc⟩ hkc hfac
    have hAc := hA.same hkc
    refine den_norm (by simp only [List.cons_append, List.nil_append, pgQ]; rfl) (den_splitLt (fun hlk => ?_) (fun hgk => ?_))
    rotate_left
    · have hgk' : (8 : Int) ≤ (t : Int) := hgk
      obtain rfl : t = 8 := by omega
      have eQ : pgQ Q = pgL (readE e x.n.p).B := pgQ_eq fun i hi => by rw [hQ i hi, if_pos hi]; rfl
      refine den_ob64 (by simp only [IE.den, nth, vint]; omega) (den_leaf' fun wz hz => (if_neg (by decide)).mpr ((if_pos rfl).mpr ⟨⟨j + 1, d, _, m, readE e x.n.p, .slice Wa e.R.length Wc, by omega, ?_, Kc.same (shown_same hz), by show e.L.length ≤ j + 1; omega, by omega⟩, ?_⟩))
      · rw [← eQ]
        rfl
      simp only [denL, SV.den, IE.den, nth, vint]; omega
    have hlk' : (t : Int) < 8 := hlk
    intro wg hg
    refine ⟨fun y => y = b5, fun y hy => by simp [BlkIn, nth, blkOf, vaddr] at hy; omega, ?_⟩
    have Kg := Kc.same (shown_same hg)
    obtain ⟨adg, hadg, hcg⟩ := (hAc.same (shown_same hg)).1.elem hx (by decide)
    refine den_ob (by simp [BE.den, IE.den, nth, vint]) (den_ob (by simp [BE.den, IE.den, nth, vint]; omega) ?_)
    refine den_splitEq (fun ht => ?_) (fun ht0 => ?_)
    · have ht' : (t : Int) = 0 := ht
      have htn : t = 0 := by omega
      subst htn
      refine o1 rfl rfl ?_
      refine den_load [.int .u8 x.n.p] ((adg.add (j * 6)).add 4) ⟨⟨_, rfl⟩, trivial⟩ (by have e1 : a = some adg := hadg; subst e1; simp only [SV.den, nth, vaddr, addO, Option.map_some, IE.den, vint, Int.toNat_natCast]; rfl) (fun hX => by rw [add_block, add_block] at hX; have := blkA adg hadg; omega) (fun mm v hv => by rw [add_add]; exact hcg _ v (by cases mm with | zero => cases hv; rfl | succ mm => simp at hv)) (den_norm (by simp only [List.cons_append, List.nil_append]; rfl) ?_)
      refine den_ob64 (by simp only [IE.den, nth, vint]; rw [wrp]; omega) ?_
      refine den_splitEq (fun he => ?_) (fun he => ?_)
      · have he' : Q 0 = x.n.p + 1 := by
          have h0 : Q 0 = IntKind.i64.wrap x.n.p + 1 := he
          rw [wrp] at h0
          exact h0
        refine den_ob (by simp [BE.den, IE.den, nth, vint]) (den_ob (by simp [BE.den, IE.den, nth, vint]) (den_ob64 (by simp only [IE.den, nth, vint]; omega) (den_leaf' fun wz hz => (if_pos rfl).mpr ⟨⟨0 + 1, fun i => if i = 0 then 0 else Q i, by omega, ?_, pgHit hQ he', Kg.kept hz.kept fun y hy => by simp [BlkIn, nth, blkOf, vaddr] at hy; omega⟩, ?_⟩)))
        · simp [SV.den, denL, IE.den, BE.den, nth, vint, vbool, vaddr, addO, addr_add, pgQ]
        simp only [denL, SV.den, IE.den, nth, vint]; omega
      · have he' : Q 0 ≠ x.n.p + 1 := fun h => he (by
          show Q 0 = IntKind.i64.wrap x.n.p + 1
          rw [wrp]
          exact h)
        refine den_ob64 (by simp only [IE.den, nth, vint]; omega) (den_leaf' fun wz hz => (if_pos rfl).mpr ⟨⟨0 + 1, Q, by omega, ?_, pgMiss hQ he', Kg.same (shown_same hz)⟩, ?_⟩)
        · simp [SV.den, denL, IE.den, BE.den, nth, vint, vbool, vaddr, addO, addr_add, pgQ]
        simp only [denL, SV.den, IE.den, nth, vint]; omega
    refine den_splitEq (fun ht => ?_) (fun ht1 => ?_)
    · have ht' : (t : Int) = 1 := ht
      have htn : t = 1 := by omega
      subst htn
      refine o1 rfl rfl ?_
      refine den_load [.int .u8 x.n.p] ((adg.add (j * 6)).add 4) ⟨⟨_, rfl⟩, trivial⟩ (by have e1 : a = some adg := hadg; subst e1; simp only [SV.den, nth, vaddr, addO, Option.map_some, IE.den, vint, Int.toNat_natCast]; rfl) (fun hX => by rw [add_block, add_block] at hX; have := blkA adg hadg; omega) (fun mm v hv => by rw [add_add]; exact hcg _ v (by cases mm with | zero => cases hv; rfl | succ mm => simp at hv)) (den_norm (by simp only [List.cons_append, List.nil_append]; rfl) ?_)
      refine den_ob64 (by simp only [IE.den, nth, vint]; rw [wrp]; omega) ?_
      refine den_splitEq (fun he => ?_) (fun he => ?_)
      · have he' : Q 1 = x.n.p + 1 := by
          have h0 : Q 1 = IntKind.i64.wrap x.n.p + 1 := he
          rw [wrp] at h0
          exact h0
        refine den_ob (by simp [BE.den, IE.den, nth, vint]) (den_ob (by simp [BE.den, IE.den, nth, vint]) (den_ob64 (by simp only [IE.den, nth, vint]; omega) (den_leaf' fun wz hz => (if_pos rfl).mpr ⟨⟨1 + 1, fun i => if i = 1 then 0 else Q i, by omega, ?_, pgHit hQ he', Kg.kept hz.kept fun y hy => by simp [BlkIn, nth, blkOf, vaddr] at hy; omega⟩, ?_⟩)))
        · simp [SV.den, denL, IE.den, BE.den, nth, vint, vbool, vaddr, addO, addr_add, pgQ]
        simp only [denL, SV.den, IE.den, nth, vint]; omega
      · have he' : Q 1 ≠ x.n.p + 1 := fun h => he (by
          show Q 1 = IntKind.i64.wrap x.n.p + 1
          rw [wrp]
          exact h)
        refine den_ob64 (by simp only [IE.den, nth, vint]; omega) (den_leaf' fun wz hz => (if_pos rfl).mpr ⟨⟨1 + 1, Q, by omega, ?_, pgMiss hQ he', Kg.same (shown_same hz)⟩, ?_⟩)
        · simp [SV.den, denL, IE.den, BE.den, nth, vint, vbool, vaddr, addO, addr_add, pgQ]
        simp only [denL, SV.den, IE.den, nth, vint]; omega
    refine den_splitEq (fun ht => ?_) (fun ht2 => ?_)
    · have ht' : (t : Int) = 2 := ht
      have htn : t = 2 := by omega
      subst htn
      refine o1 rfl rfl ?_
      refine den_load [.int .u8 x.n.p] ((adg.add (j * 6)).add 4) ⟨⟨_, rfl⟩, trivial⟩ (by have e1 : a = some adg := hadg; subst e1; simp only [SV.den, nth, vaddr, addO, Option.map_some, IE.den, vint, Int.toNat_natCast]; rfl) (fun hX => by rw [add_block, add_block] at hX; have := blkA adg hadg; omega) (fun mm v hv => by rw [add_add]; exact hcg _ v (by cases mm with | zero => cases hv; rfl | succ mm => simp at hv)) (den_norm (by simp only [List.cons_append, List.nil_append]; rfl) ?_)
      refine den_ob64 (by simp only [IE.den, nth, vint]; rw [wrp]; omega) ?_
      refine den_splitEq (fun he => ?_) (fun he => ?_)
      · have he' : Q 2 = x.n.p + 1 := by
          have h0 : Q 2 = IntKind.i64.wrap x.n.p + 1 := he
          rw [wrp] at h0
          exact h0
        refine den_ob (by simp [BE.den, IE.den, nth, vint]) (den_ob (by simp [BE.den, IE.den, nth, vint]) (den_ob64 (by simp only [IE.den, nth, vint]; omega) (den_leaf' fun wz hz => (if_pos rfl).mpr ⟨⟨2 + 1, fun i => if i = 2 then 0 else Q i, by omega, ?_, pgHit hQ he', Kg.kept hz.kept fun y hy => by simp [BlkIn, nth, blkOf, vaddr] at hy; omega⟩, ?_⟩)))
        · simp [SV.den, denL, IE.den, BE.den, nth, vint, vbool, vaddr, addO, addr_add, pgQ]
        simp only [denL, SV.den, IE.den, nth, vint]; omega
      · have he' : Q 2 ≠ x.n.p + 1 := fun h => he (by
          show Q 2 = IntKind.i64.wrap x.n.p + 1
          rw [wrp]
          exact h)
        refine den_ob64 (by simp only [IE.den, nth, vint]; omega) (den_leaf' fun wz hz => (if_pos rfl).mpr ⟨⟨2 + 1, Q, by omega, ?_, pgMiss hQ he', Kg.same (shown_same hz)⟩, ?_⟩)
        · simp [SV.den, denL, IE.den, BE.den, nth, vint, vbool, vaddr, addO, addr_add, pgQ]
        simp only [denL, SV.den, IE.den, nth, vint]; omega
    refine den_splitEq (fun ht => ?_) (fun ht3 => ?_)
    · have ht' : (t : Int) = 3 := ht
      have htn : t = 3 := by omega
      subst htn
      refine o1 rfl rfl ?_
      refine den_load [.int .u8 x.n.p] ((adg.add (j * 6)).add 4) ⟨⟨_, rfl⟩, trivial⟩ (by have e1 : a = some adg := hadg; subst e1; simp only [SV.den, nth, vaddr, addO, Option.map_some, IE.den, vint, Int.toNat_natCast]; rfl) (fun hX => by rw [add_block, add_block] at hX; have := blkA adg hadg; omega) (fun mm v hv => by rw [add_add]; exact hcg _ v (by cases mm with | zero => cases hv; rfl | succ mm => simp at hv)) (den_norm (by simp only [List.cons_append, List.nil_append]; rfl) ?_)
      refine den_ob64 (by simp only [IE.den, nth, vint]; rw [wrp]; omega) ?_
      refine den_splitEq (fun he => ?_) (fun he => ?_)
      · have he' : Q 3 = x.n.p + 1 := by
          have h0 : Q 3 = IntKind.i64.wrap x.n.p + 1 := he
          rw [wrp] at h0
          exact h0
        refine den_ob (by simp [BE.den, IE.den, nth, vint]) (den_ob (by simp [BE.den, IE.den, nth, vint]) (den_ob64 (by simp only [IE.den, nth, vint]; omega) (den_leaf' fun wz hz => (if_pos rfl).mpr ⟨⟨3 + 1, fun i => if i = 3 then 0 else Q i, by omega, ?_, pgHit hQ he', Kg.kept hz.kept fun y hy => by simp [BlkIn, nth, blkOf, vaddr] at hy; omega⟩, ?_⟩)))
        · simp [SV.den, denL, IE.den, BE.den, nth, vint, vbool, vaddr, addO, addr_add, pgQ]
        simp only [denL, SV.den, IE.den, nth, vint]; omega
      · have he' : Q 3 ≠ x.n.p + 1 := fun h => he (by
          show Q 3 = IntKind.i64.wrap x.n.p + 1
          rw [wrp]
          exact h)
        refine den_ob64 (by simp only [IE.den, nth, vint]; omega) (den_leaf' fun wz hz => (if_pos rfl).mpr ⟨⟨3 + 1, Q, by omega, ?_, pgMiss hQ he', Kg.same (shown_same hz)⟩, ?_⟩)
        · simp [SV.den, denL, IE.den, BE.den, nth, vint, vbool, vaddr, addO, addr_add, pgQ]
        simp only [denL, SV.den, IE.den, nth, vint]; omega
    refine den_splitEq (fun ht => ?_) (fun ht4 => ?_)
    · have ht' : (t : Int) = 4 := ht
      have htn : t = 4 := by omega
      subst htn
      refine o1 rfl rfl ?_
      refine den_load [.int .u8 x.n.p] ((adg.add (j * 6)).add 4) ⟨⟨_, rfl⟩, trivial⟩ (by have e1 : a = some adg := hadg; subst e1; simp only [SV.den, nth, vaddr, addO, Option.map_some, IE.den, vint, Int.toNat_natCast]; rfl) (fun hX => by rw [add_block, add_block] at hX; have := blkA adg hadg; omega) (fun mm v hv => by rw [add_add]; exact hcg _ v (by cases mm with | zero => cases hv; rfl | succ mm => simp at hv)) (den_norm (by simp only [List.cons_append, List.nil_append]; rfl) ?_)
      refine den_ob64 (by simp only [IE.den, nth, vint]; rw [wrp]; omega) ?_
      refine den_splitEq (fun he => ?_) (fun he => ?_)
      · have he' : Q 4 = x.n.p + 1 := by
          have h0 : Q 4 = IntKind.i64.wrap x.n.p + 1 := he
          rw [wrp] at h0
          exact h0
        refine den_ob (by simp [BE.den, IE.den, nth, vint]) (den_ob (by simp [BE.den, IE.den, nth, vint]) (den_ob64 (by simp only [IE.den, nth, vint]; omega) (den_leaf' fun wz hz => (if_pos rfl).mpr ⟨⟨4 + 1, fun i => if i = 4 then 0 else Q i, by omega, ?_, pgHit hQ he', Kg.kept hz.kept fun y hy => by simp [BlkIn, nth, blkOf, vaddr] at hy; omega⟩, ?_⟩)))
        · simp [SV.den, denL, IE.den, BE.den, nth, vint, vbool, vaddr, addO, addr_add, pgQ]
        simp only [denL, SV.den, IE.den, nth, vint]; omega
      · have he' : Q 4 ≠ x.n.p + 1 := fun h => he (by
          show Q 4 = IntKind.i64.wrap x.n.p + 1
          rw [wrp]
          exact h)
        refine den_ob64 (by simp only [IE.den, nth, vint]; omega) (den_leaf' fun wz hz => (if_pos rfl).mpr ⟨⟨4 + 1, Q, by omega, ?_, pgMiss hQ he', Kg.same (shown_same hz)⟩, ?_⟩)
        · simp [SV.den, denL, IE.den, BE.den, nth, vint, vbool, vaddr, addO, addr_add, pgQ]
        simp only [denL, SV.den, IE.den, nth, vint]; omega
    refine den_splitEq (fun ht => ?_) (fun ht5 => ?_)
    · have ht' : (t : Int) = 5 := ht
      have htn : t = 5 := by omega
      subst htn
      refine o1 rfl rfl ?_
      refine den_load [.int .u8 x.n.p] ((adg.add (j * 6)).add 4) ⟨⟨_, rfl⟩, trivial⟩ (by have e1 : a = some adg := hadg; subst e1; simp only [SV.den, nth, vaddr, addO, Option.map_some, IE.den, vint, Int.toNat_natCast]; rfl) (fun hX => by rw [add_block, add_block] at hX; have := blkA adg hadg; omega) (fun mm v hv => by rw [add_add]; exact hcg _ v (by cases mm with | zero => cases hv; rfl | succ mm => simp at hv)) (den_norm (by simp only [List.cons_append, List.nil_append]; rfl) ?_)
      refine den_ob64 (by simp only [IE.den, nth, vint]; rw [wrp]; omega) ?_
      refine den_splitEq (fun he => ?_) (fun he => ?_)
      · have he' : Q 5 = x.n.p + 1 := by
          have h0 : Q 5 = IntKind.i64.wrap x.n.p + 1 := he
          rw [wrp] at h0
          exact h0
        refine den_ob (by simp [BE.den, IE.den, nth, vint]) (den_ob (by simp [BE.den, IE.den, nth, vint]) (den_ob64 (by simp only [IE.den, nth, vint]; omega) (den_leaf' fun wz hz => (if_pos rfl).mpr ⟨⟨5 + 1, fun i => if i = 5 then 0 else Q i, by omega, ?_, pgHit hQ he', Kg.kept hz.kept fun y hy => by simp [BlkIn, nth, blkOf, vaddr] at hy; omega⟩, ?_⟩)))
        · simp [SV.den, denL, IE.den, BE.den, nth, vint, vbool, vaddr, addO, addr_add, pgQ]
        simp only [denL, SV.den, IE.den, nth, vint]; omega
      · have he' : Q 5 ≠ x.n.p + 1 := fun h => he (by
          show Q 5 = IntKind.i64.wrap x.n.p + 1
          rw [wrp]
          exact h)
        refine den_ob64 (by simp only [IE.den, nth, vint]; omega) (den_leaf' fun wz hz => (if_pos rfl).mpr ⟨⟨5 + 1, Q, by omega, ?_, pgMiss hQ he', Kg.same (shown_same hz)⟩, ?_⟩)
        · simp [SV.den, denL, IE.den, BE.den, nth, vint, vbool, vaddr, addO, addr_add, pgQ]
        simp only [denL, SV.den, IE.den, nth, vint]; omega
    refine den_splitEq (fun ht => ?_) (fun ht6 => ?_)
    · have ht' : (t : Int) = 6 := ht
      have htn : t = 6 := by omega
      subst htn
      refine o1 rfl rfl ?_
      refine den_load [.int .u8 x.n.p] ((adg.add (j * 6)).add 4) ⟨⟨_, rfl⟩, trivial⟩ (by have e1 : a = some adg := hadg; subst e1; simp only [SV.den, nth, vaddr, addO, Option.map_some, IE.den, vint, Int.toNat_natCast]; rfl) (fun hX => by rw [add_block, add_block] at hX; have := blkA adg hadg; omega) (fun mm v hv => by rw [add_add]; exact hcg _ v (by cases mm with | zero => cases hv; rfl | succ mm => simp at hv)) (den_norm (by simp only [List.cons_append, List.nil_append]; rfl) ?_)
      refine den_ob64 (by simp only [IE.den, nth, vint]; rw [wrp]; omega) ?_
      refine den_splitEq (fun he => ?_) (fun he => ?_)
      · have he' : Q 6 = x.n.p + 1 := by
          have h0 : Q 6 = IntKind.i64.wrap x.n.p + 1 := he
          rw [wrp] at h0
          exact h0
        refine den_ob (by simp [BE.den, IE.den, nth, vint]) (den_ob (by simp [BE.den, IE.den, nth, vint]) (den_ob64 (by simp only [IE.den, nth, vint]; omega) (den_leaf' fun wz hz => (if_pos rfl).mpr ⟨⟨6 + 1, fun i => if i = 6 then 0 else Q i, by omega, ?_, pgHit hQ he', Kg.kept hz.kept fun y hy => by simp [BlkIn, nth, blkOf, vaddr] at hy; omega⟩, ?_⟩)))
        · simp [SV.den, denL, IE.den, BE.den, nth, vint, vbool, vaddr, addO, addr_add, pgQ]
        simp only [denL, SV.den, IE.den, nth, vint]; omega
      · have he' : Q 6 ≠ x.n.p + 1 := fun h => he (by
          show Q 6 = IntKind.i64.wrap x.n.p + 1
          rw [wrp]
          exact h)
        refine den_ob64 (by simp only [IE.den, nth, vint]; omega) (den_leaf' fun wz hz => (if_pos rfl).mpr ⟨⟨6 + 1, Q, by omega, ?_, pgMiss hQ he', Kg.same (shown_same hz)⟩, ?_⟩)
        · simp [SV.den, denL, IE.den, BE.den, nth, vint, vbool, vaddr, addO, addr_add, pgQ]
        simp only [denL, SV.den, IE.den, nth, vint]; omega
    refine den_splitEq (fun ht => ?_) (fun ht7 => ?_)
    · have ht' : (t : Int) = 7 := ht
      have htn : t = 7 := by omega
      subst htn
      refine o1 rfl rfl ?_
      refine den_load [.int .u8 x.n.p] ((adg.add (j * 6)).add 4) ⟨⟨_, rfl⟩, trivial⟩ (by have e1 : a = some adg := hadg; subst e1; simp only [SV.den, nth, vaddr, addO, Option.map_some, IE.den, vint, Int.toNat_natCast]; rfl) (fun hX => by rw [add_block, add_block] at hX; have := blkA adg hadg; omega) (fun mm v hv => by rw [add_add]; exact hcg _ v (by cases mm with | zero => cases hv; rfl | succ mm => simp at hv)) (den_norm (by simp only [List.cons_append, List.nil_append]; rfl) ?_)
      refine den_ob64 (by simp only [IE.den, nth, vint]; rw [wrp]; omega) ?_
      refine den_splitEq (fun he => ?_) (fun he => ?_)
      · have he' : Q 7 = x.n.p + 1 := by
          have h0 : Q 7 = IntKind.i64.wrap x.n.p + 1 := he
          rw [wrp] at h0
          exact h0
        refine den_ob (by simp [BE.den, IE.den, nth, vint]) (den_ob (by simp [BE.den, IE.den, nth, vint]) (den_ob64 (by simp only [IE.den, nth, vint]; omega) (den_leaf' fun wz hz => (if_pos rfl).mpr ⟨⟨7 + 1, fun i => if i = 7 then 0 else Q i, by omega, ?_, pgHit hQ he', Kg.kept hz.kept fun y hy => by simp [BlkIn, nth, blkOf, vaddr] at hy; omega⟩, ?_⟩)))
        · simp [SV.den, denL, IE.den, BE.den, nth, vint, vbool, vaddr, addO, addr_add, pgQ]
        simp only [denL, SV.den, IE.den, nth, vint]; omega
      · have he' : Q 7 ≠ x.n.p + 1 := fun h => he (by
          show Q 7 = IntKind.i64.wrap x.n.p + 1
          rw [wrp]
          exact h)
        refine den_ob64 (by simp only [IE.den, nth, vint]; omega) (den_leaf' fun wz hz => (if_pos rfl).mpr ⟨⟨7 + 1, Q, by omega, ?_, pgMiss hQ he', Kg.same (shown_same hz)⟩, ?_⟩)
        · simp [SV.den, denL, IE.den, BE.den, nth, vint, vbool, vaddr, addO, addr_add, pgQ]
        simp only [denL, SV.den, IE.den, nth, vint]; omega
    exfalso
    have q0 : (t : Int) ≠ 0 := ht0
    have q1 : (t : Int) ≠ 1 := ht1
    have q2 : (t : Int) ≠ 2 := ht2
    have q3 : (t : Int) ≠ 3 := ht3
    have q4 : (t : Int) ≠ 4 := ht4
    have q5 : (t : Int) ≠ 5 := ht5
    have q6 : (t : Int) ≠ 6 := ht6
    have q7 : (t : Int) ≠ 7 := ht7
    omega
  refine den_ob64 (by simp only [IE.den, nth, vint]; omega) (den_leaf' fun wz hz => (if_pos rfl).mpr ⟨⟨j + 1, d, S, m, e, _, by omega, rfl, hS7.same (shown_same hz), by omega, by omega⟩, ?_⟩)
  simp only [denL, SV.den, IE.den, nth, vint]; omega
end Go.Proofs.Ytfjlnfgbfclgbaa
