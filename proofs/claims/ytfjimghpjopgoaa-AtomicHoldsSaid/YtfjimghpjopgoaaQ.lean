/- The law's loop over an order, and a call on an order and on its specification. No conditions beyond those that each theorem names. -/
import Derived.Test.YtfjimghpjopgoaaP
set_option maxRecDepth 100000
set_option linter.unusedVariables false
set_option linter.unusedSimpArgs false
namespace Go.Proofs.Ytfjimghpjopgoaa
open Go.Sx

theorem c26 (o t : Value) (L : List Cmd) (many : Int) (w : World) (hO : OrdR w o L) (ht : Arr cmdE w t L) (hm : L.length ≤ 60000000000) : Gives Try.prog 26 [o, .agg #[t], .int .i64 many] w (.bool true) := by
  refine Runs.gives ?_
  obtain ⟨s, ho, hs, hcap⟩ := hO.ex
  obtain ⟨bo, rfl, hbo⟩ := ho.at_
  obtain ⟨a, cp, rfl⟩ := ht.slice
  have h := runs mix t26 rfl rfl (ε := [pt bo, .slice a L.length cp, .int .i64 many]) (w := w) (M := fun _ => False) (R := fun v _ => v = .bool true) ⟨⟨_, rfl⟩, ⟨_, _, _, rfl⟩, ⟨_, rfl⟩, trivial⟩ trivial (by simp [keys]) (by simp [keys]) (by simp [keys]) ?_
  · simpa [SV.den, denL, IE.den, BE.den, nth, vint, vbool, vaddr, addO, addr_add] using h
  · refine den_blk fun b0 _ _ k0 => den_blk fun b1 _ _ k1 => den_blk fun b2 _ _ k2 => den_norm (by simp only [List.cons_append, List.nil_append]; rfl) ?_
    refine den_callR (fun w l w' => ∃ v, l = [v] ∧ SeqAt Try.prog w.heap.size w'.heap.size w' v ((eachL L).map fun x => (yvals Try.prog [3, 4] x).toArray)) (fun w1 h1 => ?_) (fun w1 l w2 h1 hf hR hs12 => ?_)
    · refine (c25 (pt bo) L w1 (hO.same h1.base) hm).mono fun v w' hv => ?_
      obtain ⟨g, caps, Ft, rfl, h2⟩ := hv.ex
      exact ⟨[.func (.func g) #[] caps], ⟨rfl, trivial⟩, rfl, _, rfl, hv⟩
    obtain ⟨v, rfl, hv⟩ := hR
    have l0 := h1.lt (i := 3) (b := b0) (by simp [keys]) rfl
    have l1 := h1.lt (i := 4) (b := b1) (by simp [keys]) rfl
    have l2 := h1.lt (i := 5) (b := b2) (by simp [keys]) rfl
    refine den_norm (by simp only [List.cons_append, List.nil_append]; rfl) (den_split_false ?_ (den_blk fun b3 k3 _ k30 => den_norm (by simp only [List.cons_append, List.nil_append]; rfl) ?_))
    · obtain ⟨g, caps, Ft, rfl, h2⟩ := hv.ex
      rfl
    refine den_range (eachL L) (fun k l _ => l = [.int .i64 k] ∧ k ≤ L.length ∧ (k = 0 ∨ (k : Int) < many)) w1.heap.size w2.heap.size ?_ ?_ ?_ (fun _ _ => ⟨rfl, Nat.zero_le _, .inl rfl⟩) ?_ ?_
    · intro x hx
      obtain ⟨i, hi⟩ := List.getElem?_of_mem hx
      simp only [eachL, List.getElem?_mapIdx, Option.map_eq_some_iff] at hi
      obtain ⟨c, _, rfl⟩ := hi
      exact ⟨⟨_, rfl⟩, ⟨_, rfl⟩, trivial⟩
    · intro b hb
      simp [BlkIn, nth, blkOf, vaddr] at hb
      omega
    · intro w3 h3
      refine hv.kept h3.kept fun b hb hb2 _ hin => ?_
      simp [BlkIn, nth, blkOf, vaddr] at hin
      omega
    · rintro w3 Ft h3 k x hx l hl w0 w' ⟨rfl, hkl, hkm⟩ hq hk hfa hFt
      obtain ⟨c, hc, rfl⟩ : ∃ c, L[k]? = some c ∧ x = [.int .i64 c.id, .bool (rdy L k)] := by
        simp only [eachL, List.getElem?_mapIdx, Option.map_eq_some_iff] at hx
        obtain ⟨c, hc, rfl⟩ := hx
        exact ⟨c, hc, rfl⟩
      have hlt : k < L.length := (List.getElem?_eq_some_iff.1 hc).1
      have ht' : Arr cmdE w' (.slice a L.length cp) L := ht.same hk
      refine den_norm (by simp only [List.cons_append, List.nil_append]; rfl) (den_splitLe (fun h => ?_) (fun h => ?_))
      · have h' : (L.length : Int) ≤ k := h
        omega
      refine den_idx2 (E := cmdE) (L := L) c k [.int .i64 c.id] ht' rfl (by decide) rfl hc ⟨⟨_, rfl⟩, trivial⟩ (fun m v hv => by cases m with | zero => exact hv | succ m => simp at hv) (fun w5 h5 => ht'.same (shown_same h5)) (fun _ _ => by simp [BlkIn]) fun w5 h5 => den_norm (by simp only [List.cons_append, List.nil_append]; rfl) (den_splitNot (fun h6 => ?_) (fun h6 => ?_))
      · simp [BE.den, IE.den, nth, vint] at h6
      refine den_call_bool (b := rdy L k) (fun w6 h7 => c27 _ L k w6 (ht'.same ((shown_same h5).trans (shown_same h7))) hlt (by omega)) rfl (fun w6 w7 h7 h8 => den_norm (by simp only [List.cons_append, List.nil_append]; rfl) (den_splitNot (fun h9 => ?_) (fun h9 => ?_)))
      · simp [BE.den, nth, vbool] at h9
      refine den_ob64 (by simp only [IE.den, nth, vint]; omega) (den_splitLe (fun h10 => ?_) (fun h10 => ?_))
      · have h10' : many ≤ (k : Int) + 1 := h10
        refine den_resume fun w8 h11 w9 hq9 hk9 => ?_
        refine fun wz hz wy hqy hky => (if_neg (by decide)).mpr ⟨_, rfl, ?_, hky⟩
        simp [SV.den, denL, IE.den, BE.den, nth, vint, vbool, vaddr, addO, addr_add, eqB_eq, vlen]
        (repeat' split) <;> omega
      · have h10' : (k : Int) + 1 < many := h10
        exact den_leaf_round hFt fun w8 h11 => ⟨by simp [SV.den, denL, IE.den, BE.den, nth, vint, vbool, vaddr, addO, addr_add], by omega, .inr (by simpa using h10')⟩
    · rintro w3 h3 l hl w0 w' ⟨rfl, hkl, hkm⟩ hq hk hfa
      refine den_norm (by simp only [List.cons_append, List.nil_append]; rfl) (den_leafMA _ rfl fun w5 w6 h5 _ => ?_)
      rw [eachL_length] at hkm
      simp [SV.den, denL, IE.den, BE.den, nth, vint, vbool, vaddr, addO, addr_add, eqB_eq, vlen, eachL_length]
      (repeat' split) <;> omega
end Go.Proofs.Ytfjimghpjopgoaa
