/- The methods of a nil order, and the law that speaks of them. No conditions. -/
import Derived.Test.YtfjimghpjopgoaaI
import Derived.Test.YtfjimghpjopgoaaU
import Derived.Test.YtfjimghpjopgoaaSxZA
set_option maxRecDepth 100000
set_option linter.unusedVariables false
set_option linter.unusedSimpArgs false
namespace Go.Proofs.Ytfjimghpjopgoaa
open Go.Sx

abbrev nilP : Value := .pointer none
theorem c24n (w : World) : Gives Try.prog 24 [nilP] w nilP := gives mix t24n rfl rfl (ε := []) trivial (den_leaf rfl)
theorem c35n (id : Int) (w : World) : Gives Try.prog 35 [nilP, .int .i64 id] w (.tuple #[.int .i64 0, .int .i64 1]) := gives mix t35n rfl rfl (ε := [.int .i64 id]) ⟨⟨_, rfl⟩, trivial⟩ (den_leaf rfl)
theorem c17n (w : World) : Gives Try.prog 17 [nilP] w (.int .i64 0) := gives mix t17n rfl rfl (ε := []) trivial (den_leaf rfl)
theorem c16n (a b c : Int) (d : Bool) (w : World) : Gives Try.prog 16 [nilP, .int .i64 a, .int .i64 b, .int .i64 c, .bool d] w (.int .i64 1) :=
  gives mix t16n rfl rfl (ε := [.int .i64 a, .int .i64 b, .int .i64 c, .bool d]) ⟨⟨_, rfl⟩, ⟨_, rfl⟩, ⟨_, rfl⟩, ⟨_, rfl⟩, trivial⟩ (den_leaf rfl)
theorem c21n (w : World) : Gives Try.prog 21 [nilP] w (.tuple #[.int .i64 0, .int .i64 1]) := gives mix t21n rfl rfl (ε := []) trivial (den_blk fun b _ _ _ => den_leaf rfl)
theorem c22n (id : Int) (w : World) : Gives Try.prog 22 [nilP, .int .i64 id] w (.tuple #[.bool false, .int .i64 1]) := by
  refine gives mix t22n rfl rfl (ε := [.int .i64 id]) ⟨⟨_, rfl⟩, trivial⟩ (den_call [.int .i64 0, .int .i64 1] ⟨⟨_, rfl⟩, ⟨_, rfl⟩, trivial⟩ rfl (fun w1 _ => c35n id w1) fun w1 w2 h1 h2 => ?_)
  refine den_norm (by simp only [List.cons_append, List.nil_append]; rfl) (den_split_false rfl (den_leaf rfl))
theorem c19n (id : Int) (w : World) : Gives Try.prog 19 [nilP, .int .i64 id] w (.int .i64 1) := by
  refine gives mix t19n rfl rfl (ε := [.int .i64 id]) ⟨⟨_, rfl⟩, trivial⟩ (den_call [.int .i64 0, .int .i64 1] ⟨⟨_, rfl⟩, ⟨_, rfl⟩, trivial⟩ rfl (fun w1 _ => c35n id w1) fun w1 w2 h1 h2 => ?_)
  refine den_norm (by simp only [List.cons_append, List.nil_append]; rfl) (den_split_true rfl (den_leaf rfl))
theorem c29n (id : Int) (w : World) : Gives Try.prog 29 [nilP, .int .i64 id] w (.int .i64 1) := by
  refine gives mix t29n rfl rfl (ε := [.int .i64 id]) ⟨⟨_, rfl⟩, trivial⟩ (den_call [.int .i64 0, .int .i64 1] ⟨⟨_, rfl⟩, ⟨_, rfl⟩, trivial⟩ rfl (fun w1 _ => c35n id w1) fun w1 w2 h1 h2 => ?_)
  refine den_norm (by simp only [List.cons_append, List.nil_append]; rfl) (den_split_false rfl (den_leaf rfl))
theorem c18n (id : Int) (b : Bool) (e : Int) (w : World) : Gives Try.prog 18 [nilP, .int .i64 id, .bool b, .int .i64 e] w (.bool (!b && decide (1 = e))) := by
  refine gives mix t18n rfl rfl (ε := [.int .i64 id, .bool b, .int .i64 e]) ⟨⟨_, rfl⟩, ⟨_, rfl⟩, ⟨_, rfl⟩, trivial⟩ (den_call [.bool false, .int .i64 1] ⟨⟨_, rfl⟩, ⟨_, rfl⟩, trivial⟩ rfl (fun w1 _ => c22n id w1) fun w1 w2 h1 h2 => ?_)
  refine den_norm (by simp only [List.cons_append, List.nil_append]; rfl) (den_split (fun h => ?_) (fun h => ?_))
  · refine den_call_int (fun w3 _ => c15 1 w3) rfl (fun w3 w4 h3 h4 => den_norm (by simp only [List.cons_append, List.nil_append]; rfl) (den_leaf ?_))
    cases b
    · simp [denL, SV.den, BE.den, IE.den, nth, vint, eqB_eq]
    · cases h
  · refine den_leaf ?_
    cases b
    · cases h
    · rfl

/-- the iterator over nothing -/
theorem seqNil (b : Nat) (w : World) (hb : PtsTo w (.pointer (some ⟨b, 0, none⟩)) [nilP]) : SeqOk Try.prog 45 #[.pointer (some ⟨b, 0, none⟩)] w (fun x => x = b) [] := by
  intro l J Jx W hFt _ hJ
  have hW : PtsTo W (.pointer (some ⟨b, 0, none⟩)) [nilP] := by
    obtain ⟨b', hb', hc⟩ := hb.at_
    cases hb'
    refine ⟨b, rfl, fun m v hv => ?_⟩
    have := hc m v hv
    simpa only [World.cell?, hFt 0 W hJ b rfl] using this
  have h := gives (w := W) (r := .tuple #[]) mix t45 rfl rfl (ε := [.func (.yield l) #[] #[], .pointer (some ⟨b, 0, none⟩)]) ⟨rfl, ⟨_, rfl⟩, trivial⟩ ?_
  · have h' : Gives Try.prog 45 [.func (.yield l) #[] #[], .pointer (some ⟨b, 0, none⟩)] W (.tuple #[]) := by simpa [denL, SV.den, nth, vaddr, addO, addr_add] using h
    exact Calls.mono h'.run fun e w' h => ⟨_, h.1, W, .inl hJ, h.2⟩
  · refine den_ldp [nilP] [nilP] (⟨⟨_, rfl⟩, trivial⟩ : Fits [.ptr] [nilP]) (fun m v hv => by simpa using hv) (fun w1 h1 => hW.kept h1.base (fun _ _ h => h)) (fun _ _ h => by simp [BlkIn] at h) fun w1 h1 => ?_
    exact den_norm (by simp only [List.cons_append, List.nil_append]; rfl) (den_split_true rfl (den_leaf rfl))
theorem c25n (w : World) : GivesR Try.prog 25 [nilP] w (fun v w' => SeqAt Try.prog w.heap.size w'.heap.size w' v []) := by
  refine givesR mix t25n rfl rfl (ε := []) trivial (den_call [nilP] ⟨⟨_, rfl⟩, trivial⟩ rfl (fun w1 _ => c24n w1) fun w1 w2 h1 h2 => den_norm (by simp only [List.cons_append, List.nil_append]; rfl) ?_)
  refine den_blk fun b hb1 hb2 hb3 => den_norm (by simp only [List.cons_append, List.nil_append]; rfl) (den_leafR _ rfl fun w3 h3 => ?_)
  have hbk : HasBlk w3 (.pointer (some ⟨b, 0, none⟩)) [nilP] := h3.facts.1
  refine ⟨45, _, fun x => x = b, rfl, by kernel_rfl, seqNil b w3 hbk.pts, fun x hx => ?_⟩
  subst hx
  obtain ⟨x', ty, hx', hh⟩ := hbk
  cases hx'
  have hlt := (Array.getElem?_eq_some_iff.1 hh).1
  refine ⟨hb3, hlt, hlt, ?_⟩
  rintro ⟨o, ho, hr⟩
  rw [hh] at ho
  cases ho
  cases hr

theorem c26n (many : Int) (w : World) : Gives Try.prog 26 [nilP, .agg #[.slice none 0 0], .int .i64 many] w (.bool true) := by
  refine Runs.gives ?_
  have h := runs mix t26n rfl rfl (ε := [.slice none 0 0, .int .i64 many]) (w := w) (M := fun _ => False) (R := fun v _ => v = .bool true) ⟨⟨_, _, _, rfl⟩, ⟨_, rfl⟩, trivial⟩ trivial (by simp [keys]) (by simp [keys]) (by simp [keys]) ?_
  · simpa [denL, SV.den, IE.den, nth, vint] using h
  · refine den_blk fun b0 _ _ _ => den_blk fun b1 _ _ _ => den_blk fun b2 _ _ _ => den_norm (by simp only [List.cons_append, List.nil_append]; rfl) ?_
    refine den_callR (fun w l w' => ∃ v, l = [v] ∧ SeqAt Try.prog w.heap.size w'.heap.size w' v []) (fun w1 h1 => ?_) (fun w1 l w2 h1 hf hR hs12 => ?_)
    · refine (c25n w1).mono fun v w' hv => ?_
      obtain ⟨g, caps, Ft, rfl, h2⟩ := hv.ex
      exact ⟨[.func (.func g) #[] caps], ⟨rfl, trivial⟩, rfl, _, rfl, hv⟩
    obtain ⟨v, rfl, hv⟩ := hR
    have l0 := h1.lt (i := 2) (b := b0) (by simp [keys]) rfl
    have l1 := h1.lt (i := 3) (b := b1) (by simp [keys]) rfl
    have l2 := h1.lt (i := 4) (b := b2) (by simp [keys]) rfl
    refine den_norm (by simp only [List.cons_append, List.nil_append]; rfl) (den_split_false ?_ (den_blk fun b3 k1 _ _ => den_norm (by simp only [List.cons_append, List.nil_append]; rfl) ?_))
    · obtain ⟨g, caps, Ft, rfl, h2⟩ := hv.ex
      rfl
    refine den_range [] (fun k l _ => l = [.int .i64 k]) w1.heap.size w2.heap.size (by simp) ?_ ?_ (fun _ _ => rfl) (fun w Ft _ k x hx => by cases hx) ?_
    · intro b hb
      simp only [BlkIn, List.mem_cons, List.not_mem_nil, or_false, exists_eq_or_imp, exists_eq_left, nth, List.getD_cons_succ, List.getD_cons_zero, blkOf, vaddr] at hb
      simp at hb
      omega
    · intro w3 h3
      refine hv.kept h3.kept fun b hb hb2 _ hin => ?_
      simp [BlkIn, nth, blkOf, vaddr] at hin
      all_goals
        omega
    · intro w3 h3 l hl w0 w' hJ hq hk hfa
      subst hJ
      refine den_norm (by simp only [List.cons_append, List.nil_append]; rfl) (den_leafMA _ rfl fun w5 w6 h5 _ => ?_)
      simp [SV.den, BE.den, IE.den, nth, vint, eqB_eq, vlen]
      omega

theorem c8 (x a b c : Int) (d : Bool) (w : World) : Gives Try.prog 8 [.agg #[.int .i64 x, .int .i64 a, .int .i64 b, .int .i64 c, .bool d]] w (.bool true) := by
  refine gives mix t8 rfl rfl (ε := [.int .i64 x, .int .i64 a, .int .i64 b, .int .i64 c, .bool d]) ⟨⟨_, rfl⟩, ⟨_, rfl⟩, ⟨_, rfl⟩, ⟨_, rfl⟩, ⟨_, rfl⟩, trivial⟩ (den_blk fun b0 _ _ _ => den_norm (by simp only [List.cons_append, List.nil_append]; rfl) ?_)
  refine den_call [.int .i64 0, .int .i64 1] ⟨⟨_, rfl⟩, ⟨_, rfl⟩, trivial⟩ rfl (fun w1 _ => c21n w1) fun _ _ _ _ => den_norm (by simp only [List.cons_append, List.nil_append]; rfl) ?_
  refine den_call_int (fun w1 _ => c16n a b c d w1) rfl fun _ _ _ _ => den_norm (by simp only [List.cons_append, List.nil_append]; rfl) ?_
  refine den_call_int (fun w1 _ => c15 1 w1) rfl fun _ _ _ _ => den_norm (by simp only [List.cons_append, List.nil_append]; rfl) (den_split_true rfl ?_)
  refine den_call_bool (b := true) (fun w1 _ => c18n a false 1 w1) rfl fun _ _ _ _ => den_norm (by simp only [List.cons_append, List.nil_append]; rfl) (den_split_true rfl ?_)
  refine den_call_int (fun w1 _ => c15 1 w1) rfl fun _ _ _ _ => den_norm (by simp only [List.cons_append, List.nil_append]; rfl) (den_split_true rfl ?_)
  refine den_call_int (fun w1 _ => c19n a w1) rfl fun _ _ _ _ => den_norm (by simp only [List.cons_append, List.nil_append]; rfl) ?_
  refine den_call_int (fun w1 _ => c15 1 w1) rfl fun _ _ _ _ => den_norm (by simp only [List.cons_append, List.nil_append]; rfl) (den_split_true rfl ?_)
  refine den_call_int (fun w1 _ => c29n a w1) rfl fun _ _ _ _ => den_norm (by simp only [List.cons_append, List.nil_append]; rfl) ?_
  refine den_call_int (fun w1 _ => c15 1 w1) rfl fun _ _ _ _ => den_norm (by simp only [List.cons_append, List.nil_append]; rfl) (den_split_true rfl ?_)
  refine den_call_int (fun w1 _ => c17n w1) rfl fun _ _ _ _ => den_norm (by simp only [List.cons_append, List.nil_append]; rfl) (den_split_true rfl ?_)
  refine den_call_bool (b := true) (fun w1 _ => c26n 9 w1) rfl fun _ _ _ _ => den_norm (by simp only [List.cons_append, List.nil_append]; rfl) (den_split_true rfl ?_)
  refine den_call [nilP] ⟨⟨_, rfl⟩, trivial⟩ rfl (fun w1 _ => c24n w1) fun _ _ _ _ => den_norm (by simp only [List.cons_append, List.nil_append]; rfl) (den_split_true rfl ?_)
  exact den_call_bool (b := true) (fun w1 _ => c9 w1) rfl fun _ _ _ _ => den_leaf rfl
end Go.Proofs.Ytfjimghpjopgoaa
