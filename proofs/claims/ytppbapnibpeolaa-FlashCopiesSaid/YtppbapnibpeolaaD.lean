/- A flash device: reading, and the pages of a block. No conditions beyond those that each theorem names. -/
import Derived.Test.YtppbapnibpeolaaC
set_option maxRecDepth 100000
set_option maxHeartbeats 2000000
set_option linter.unusedVariables false
set_option linter.unusedSimpArgs false
namespace Go.Proofs.Ytppbapnibpeolaa
open Go.Sx

def rdR (d : Dv) (B A : Int) (w : World) (v : Value) (w' : World) : Prop :=
  ∃ sa sb, v = .tuple #[sa, sb, .int .i64 (d.rdE B A)] ∧ Mine byteE 5 w' sa (d.rdA B A) ∧ Mine byteE 5 w' sb (d.rdB B A) ∧ (∀ g, sa.ownBlock = some g → w.heap.size ≤ g) ∧ (∀ g, sb.ownBlock = some g → w.heap.size ≤ g ∧ sa.ownBlock ≠ some g)
theorem rdR_err {d : Dv} {B A : Int} {w w' : World} (e : Int) (he : e ≠ 0) (h : d.rdE B A = e) : rdR d B A w (.tuple #[.slice none 0 0, .slice none 0 0, .int .i64 e]) w' := by
  refine ⟨.slice none 0 0, .slice none 0 0, by rw [h], ?_, ?_, (fun g hg => by cases hg), (fun g hg => by cases hg)⟩
  · unfold Dv.rdA; rw [if_neg (by rw [h]; exact he)]; exact Mine.nil
  · unfold Dv.rdB; rw [if_neg (by rw [h]; exact he)]; exact Mine.nil
section
variable {w w' : World} {S T S' T' M : Nat → Prop} {b mf : Nat} {sB : Value} {Lb : List Bv} {d : Dv}
theorem c13 (w : World) (B A : Int) (h : DevM w S T b mf sB Lb d) (hw : Wf d) : GivesR Try.prog 13 [pt b, .int .i64 B, .int .i64 A] w (rdR d B A w) := by
  obtain ⟨g, c, e0⟩ := h.form hw
  subst e0
  have s0 := hw.s0
  have s1 := hw.s1
  refine givesR mix t13 rfl rfl (ε := [pt b, .int .i64 B, .int .i64 A]) ⟨⟨_, rfl⟩, ⟨_, rfl⟩, ⟨_, rfl⟩, trivial⟩ ?_
  refine den_call_bool (b := false) (fun w1 h1 => c33 w1 (h.same h1.base) hw) rfl (fun w1 w2 h1 h2 => den_norm (by simp only [List.cons_append, List.nil_append]; rfl) (den_split_false rfl ?_))
  refine den_call_bool (b := d.hasP B A) (fun w3 h3 => c34 w3 B A (((h.same (shown_same h1)).same h2).same (shown_same h3)) hw) rfl (fun w3 w4 h3 h4 => den_norm (by simp only [List.cons_append, List.nil_append]; rfl) (den_splitNot (fun hb => ?_) (fun hb => ?_)))
  · have hb' : d.hasP B A = false := hb
    exact den_leafR _ rfl fun w5 _ => rdR_err 2 (by decide) (by unfold Dv.rdE; rw [if_pos hb'])
  have hb' : d.hasP B A = true := hb
  have hbn : ¬ d.hasP B A = false := by rw [hb']; decide
  have H4 := (((h.same (shown_same h1)).same h2).same (shown_same h3)).same h4
  refine den_notnil (i := 0) h.blk.pts ?_
  refine den_ldp [.bool d.off] _ ⟨⟨_, rfl⟩, trivial⟩ (cellk _ 9 _ rfl) (fun w5 h5 => (H4.same (shown_same h5)).blk.pts) (fun _ _ => by simp [BlkIn]) fun w5 h5 => den_norm (by simp only [List.cons_append, List.nil_append]; rfl) (den_split (fun ho => ?_) (fun ho => ?_))
  · have ho' : d.off = true := ho
    exact den_leafR _ rfl fun w5 _ => rdR_err 50 (by decide) (by unfold Dv.rdE; rw [if_neg hbn, if_pos ho'])
  have ho' : ¬ d.off = true := by have : d.off = false := ho; rw [this]; decide
  have H5 := H4.same (shown_same h5)
  refine den_ldp [.slice (some ⟨g, 0, none⟩) Lb.length c] _ ⟨⟨_, _, _, rfl⟩, trivial⟩ (cellk _ 5 _ rfl) (fun w5 h5 => (H5.same (shown_same h5)).blk.pts) (fun _ _ => by simp [BlkIn]) fun w6 h6 => den_norm (by simp only [List.cons_append, List.nil_append]; rfl) ?_
  have H6 := H5.same (shown_same h6)
  obtain ⟨j, i, v, L, q, g2, c2, e1, e2, hj, hv, hx, hi, hq, ev, hL, hps, hpg, -, -⟩ := H6.page hw hb'
  refine den_idx2 (E := blE) (L := Lb) v j [.slice (some ⟨g2, 0, none⟩) L.length c2] H6.own.arr rfl (by decide) e1 hv ⟨⟨_, _, _, rfl⟩, trivial⟩ (cellk _ 0 _ (by simp only [blE]; rw [ev]; rfl)) (fun w6 h6 => (H6.same (shown_same h6)).own.arr) (fun _ _ => by simp [BlkIn]) fun w7 h7 => den_norm (by simp only [List.cons_append, List.nil_append]; rfl) ?_
  rw [ev] at hL
  have H7 := H6.same (shown_same h7)
  have hL7 := hL.same (shown_same h7)
  obtain ⟨qa, qc, eq⟩ := hpg.g.1.slice
  refine den_idx2 (E := pgE) (L := L) q i [.slice qa ((d.blk B).pg A).D.length qc, .int .i64 q.st] hL7.arr rfl (by decide) e2 hq ⟨⟨_, _, _, rfl⟩, ⟨_, rfl⟩, trivial⟩ ?_ (fun w7 h7 => (hL7.same (shown_same h7)).arr) (fun _ _ => by simp [BlkIn]) fun w8 h8 => den_norm (by simp only [List.cons_append, List.nil_append]; rfl) (den_blk fun b9 k9 _ _ => den_norm (by simp only [List.cons_append, List.nil_append]; rfl) ?_)
  · intro m u hu
    simp only [pgE, eq]
    match m, hu with
    | 0, hu => exact hu
    | 1, hu => exact hu
  have zb : w.heap.size ≤ b9 := by have := h8.base.size; have : w8.heap.size ≤ b9 := k9; omega
  have hG := ((hpg.g.same (shown_same h7)).same (shown_same h8))
  rw [eq] at hG
  rw [hpg.st]
  refine den_splitEq (fun hs => ?_) (fun hs1 => den_splitEq (fun hs => ?_) (fun hs4 => den_splitEq (fun hs => ?_) (fun hs5 => ?_)))
  · have hs' : ((d.blk B).pg A).st = 1 := hs
    exact den_leafR _ rfl fun w5 _ => rdR_err 52 (by decide) (by unfold Dv.rdE; rw [if_neg hbn, if_neg ho', if_pos hs'])
  · have n1 : ¬ ((d.blk B).pg A).st = 1 := hs1
    have hs' : ((d.blk B).pg A).st = 4 := hs
    exact den_leafR _ rfl fun w5 _ => rdR_err 53 (by decide) (by unfold Dv.rdE; rw [if_neg hbn, if_neg ho', if_neg n1, if_pos hs'])
  · have n1 : ¬ ((d.blk B).pg A).st = 1 := hs1
    have n4 : ¬ ((d.blk B).pg A).st = 4 := hs4
    have hs' : ((d.blk B).pg A).st = 5 := hs
    exact den_leafR _ rfl fun w5 _ => rdR_err 53 (by decide) (by unfold Dv.rdE; rw [if_neg hbn, if_neg ho', if_neg n1, if_neg n4, if_pos hs'])
  have n1 : ¬ ((d.blk B).pg A).st = 1 := hs1
  have n4 : ¬ ((d.blk B).pg A).st = 4 := hs4
  have n5 : ¬ ((d.blk B).pg A).st = 5 := hs5
  have e0 : d.rdE B A = 0 := by unfold Dv.rdE; rw [if_neg hbn, if_neg ho', if_neg n1, if_neg n4, if_neg n5]
  obtain ⟨i', ei', hi', hqi⟩ := hw.pgAt hb'
  have ok := (hw.blk (Dv.hasB_of hb')).pg i' _ hqi
  have lo := ok.lo
  have hi5 := ok.hi
  have hD : (((d.blk B).pg A).D.length : Int) = d.g.s + 64 := ok.data (by omega)
  generalize eD : ((d.blk B).pg A).D = D at hG hD ⊢
  have H8 := H7.same (shown_same h8)
  have hn : ∃ n : Nat, d.g.s = n := ⟨d.g.s.toNat, by omega⟩
  obtain ⟨n, hn⟩ := hn
  refine den_ldp [.int .i64 d.g.s] _ ⟨⟨_, rfl⟩, trivial⟩ (cellk _ 2 _ rfl) (fun wa ha => (H8.same (shown_new ha fun y hy => by simp [BlkIn, nth, blkOf, vaddr] at hy; have := hy; have : w8.heap.size ≤ b9 := k9; omega)).blk.pts) (fun y hy => by have e : b = y := Option.some.inj hy; have := h.b_lt; simp [BlkIn, nth, blkOf, vaddr]; try omega) fun wa ha => den_norm (by simp only [List.cons_append, List.nil_append]; rfl) ?_
  have kA : Same w8 wa := shown_new ha fun y hy => by simp [BlkIn, nth, blkOf, vaddr] at hy; have : w8.heap.size ≤ b9 := k9; omega
  have ga := hG.same kA
  have nq : ∀ ad, vaddr (Value.slice qa D.length qc) = some ad → ad.block < w8.heap.size := fun ad had => hG.2.2.2 ad had
  intro wb hb2
  refine ⟨BlkIn [pt b, .int .i64 B, .int .i64 A, .bool false, .bool (d.hasP B A), .bool d.off, .slice (some ⟨g, 0, none⟩) Lb.length c, .slice (some ⟨g2, 0, none⟩) L.length c2, .slice qa D.length qc, .int .i64 ((d.blk B).pg A).st, pt b9, .int .i64 d.g.s] [10], fun y hy => hy, ?_⟩
  have hcap := hG.2.2.1
  have hcap' : D.length ≤ qc := hcap
  refine den_slice qa D.length qc none (some (n : Int)) (some (n : Int)) 0 n n 1 u26 st5 (fun ρ h => h.1) (fun _ _ => rfl) (fun ρ h => congrArg some (h.2.1.trans (by simp only [SV.den, IE.den, nth, vint]; rw [hn]))) (fun ρ h => congrArg some (h.2.2.1.trans (by simp only [SV.den, IE.den, nth, vint]; rw [hn]))) (.inr ⟨rfl, by omega⟩) (.inr ⟨rfl, Nat.le_refl _⟩) (.inl ⟨rfl, rfl⟩) (fun _ => rfl) (den_norm (by simp only [List.cons_append, List.nil_append]; rfl) ?_)
  refine den_slice qa D.length qc (some (n : Int)) none none n D.length qc 1 u26 st5 (fun ρ h => h.1) (fun ρ h => congrArg some (h.2.1.trans (by simp only [SV.den, IE.den, nth, vint]; rw [hn]))) (fun _ _ => rfl) (fun _ _ => rfl) (.inl ⟨rfl, rfl⟩) (.inl ⟨rfl, rfl, rfl⟩) (.inr ⟨rfl, by omega⟩) (fun _ => rfl) (den_norm (by simp only [List.cons_append, List.nil_append]; rfl) ?_)
  have gb := ga.same (shown_same hb2)
  have A1 : Arr byteE wb (sliced qa 0 n n 1) (D.take n) := by
    have := gb.1.sub (l := 0) (k := n) (m := n) (Nat.zero_le _) (by omega) (Nat.le_refl _)
    simpa [byteE] using this
  have A2 : Arr byteE wb (sliced qa n D.length qc 1) (D.drop n) := by
    have := gb.1.sub (l := n) (k := D.length) (m := qc) (by omega) (Nat.le_refl _) hcap'
    simpa [byteE] using this
  have z8 : w.heap.size ≤ w8.heap.size := h8.base.size
  have za : w8.heap.size ≤ wa.heap.size := kA.size
  have zb' : wa.heap.size ≤ wb.heap.size := hb2.kept.size
  refine den_callR (fun w1 l w2 => ∃ v, l = [v] ∧ Mine byteE 5 w2 v (D.take n) ∧ ∀ g, v.ownBlock = some g → w1.heap.size ≤ g) (fun wc hc => ?_) (fun wc l wd hc hfl hR kcd => ?_)
  · refine (c35 _ (D.take n) wc (A1.same (shown_same hc)) (by rw [List.length_take]; omega)).mono fun v w' ⟨q1, q2, _⟩ => ?_
    obtain ⟨va, vc, hv⟩ := q1.slice
    exact ⟨[v], ⟨⟨_, _, _, hv⟩, trivial⟩, rfl, v, rfl, q1, q2⟩
  obtain ⟨va, rfl, hMa, hla⟩ := hR
  have zc : wb.heap.size ≤ wc.heap.size := hc.kept.size
  have zd : wc.heap.size ≤ wd.heap.size := kcd.size
  refine den_norm (by simp only [List.cons_append, List.nil_append]; rfl) ?_
  refine den_callR (fun w1 l w2 => ∃ v, l = [v] ∧ Mine byteE 5 w2 v (D.drop n) ∧ ∀ g, v.ownBlock = some g → w1.heap.size ≤ g) (fun we he => ?_) (fun we l wf he hfl hR kef => ?_)
  · refine (c35 _ (D.drop n) we (((A2.same (shown_same hc)).same kcd).same (shown_same he)) (by rw [List.length_drop]; omega)).mono fun v w' ⟨q1, q2, _⟩ => ?_
    obtain ⟨va, vc, hv⟩ := q1.slice
    exact ⟨[v], ⟨⟨_, _, _, hv⟩, trivial⟩, rfl, v, rfl, q1, q2⟩
  obtain ⟨vb, rfl, hMb, hlb⟩ := hR
  have ze : wd.heap.size ≤ we.heap.size := he.kept.size
  have hsn : d.g.s.toNat = n := by omega
  refine den_norm (by simp only [List.cons_append, List.nil_append]; rfl) (den_leafR _ rfl fun wg hg => ⟨va, vb, by rw [e0]; rfl, ?_, ?_, fun y hy => by have := hla y hy; omega, fun y hy => ⟨by have := hlb y hy; omega, fun hy2 => by have := hlb y hy; have := hMa.lt hy2; omega⟩⟩)
  · unfold Dv.rdA
    rw [if_pos e0, eD, hsn]
    exact ((hMa.same (shown_same he)).same kef).same (shown_same hg)
  · unfold Dv.rdB
    rw [if_pos e0, eD, hsn]
    exact hMb.same (shown_same hg)
end
end Go.Proofs.Ytppbapnibpeolaa
