/- What the functions of the law that compare pieces return. No conditions beyond those that each theorem names. -/
import Derived.Test.YtfjimghpjopgoaaF
import Derived.Laws.StructEq
set_option maxRecDepth 100000
set_option linter.unusedVariables false
set_option linter.unusedSimpArgs false
namespace Go.Proofs.Ytfjimghpjopgoaa
open Go.Sx

theorem underlying36 : Try.prog.underlying 36 = some (.struct (Try.prog.fieldsOf 36)) := by kernel_rfl
theorem underlying3 : Try.prog.underlying 3 = some (.int .i64) := by kernel_rfl
theorem stood36 : Try.prog.stoodInHeld 36 = false := by kernel_rfl
theorem guard36 : Try.prog.eqGuardType Try.prog.depth 36 = false := by kernel_rfl
theorem agg3 : isAggT Try.prog 3 = some false := by kernel_rfl
theorem fields36 : ∃ f g : Field, (Try.prog.fieldsOf 36).toList = [f, g] ∧ f.type = 3 ∧ g.type = 3 ∧ f.offset = 0 ∧ g.offset = 1 ∧ f.name ≠ "_" ∧ g.name ≠ "_" :=
  ⟨(Try.prog.fieldsOf 36).toList[0]!, (Try.prog.fieldsOf 36).toList[1]!, by kernel_rfl, by kernel_rfl, by kernel_rfl, by kernel_rfl, by kernel_rfl, by decide +kernel, by decide +kernel⟩
theorem flat36 (a b c d : Int) : (∀ f ∈ (Try.prog.fieldsOf 36).toList, FlatField Try.prog #[.int .i64 a, .int .i64 b] #[.int .i64 c, .int .i64 d] f) ∧
    ((Try.prog.fieldsOf 36).toList.all fun f => eqV (#[Value.int .i64 a, .int .i64 b][f.offset]?.getD undef) (#[Value.int .i64 c, .int .i64 d][f.offset]?.getD undef)) = decide ((a, b) = (c, d)) := by
  obtain ⟨f, g, hf, h1, h2, h3, h4, h5, h6⟩ := fields36
  rw [hf]
  constructor
  · intro x hx
    simp only [List.mem_cons, List.not_mem_nil, or_false] at hx
    rcases hx with rfl | rfl
    · exact ⟨h5, by rw [h1]; exact agg3, .inl ⟨.i64, a, c, by rw [h1]; exact underlying3, by rw [h3]; rfl, by rw [h3]; rfl⟩⟩
    · exact ⟨h6, by rw [h2]; exact agg3, .inl ⟨.i64, b, d, by rw [h2]; exact underlying3, by rw [h4]; rfl, by rw [h4]; rfl⟩⟩
  · simp [h3, h4, eqV, Bool.decide_and]

/-- whether two lists of pieces are equal -/
theorem c32 (s t : Value) (L M : List (Int × Int)) (w : World) (hs : Arr pcE w s L) (ht : Arr pcE w t M) (hm : L.length ≤ 60000000000) : Gives Try.prog 32 [s, t] w (.bool (decide (L = M))) := by
  obtain ⟨a, c, rfl⟩ := hs.slice
  obtain ⟨a2, c2, rfl⟩ := ht.slice
  refine gives mix t32 rfl rfl (ε := [.slice a L.length c, .slice a2 M.length c2]) ⟨⟨_, _, _, rfl⟩, ⟨_, _, _, rfl⟩, trivial⟩ (den_splitNot (fun h => den_leaf ?_) (fun h => ?_))
  · have h' : ¬ (L.length : Int) = M.length := by simpa [BE.den, IE.den, nth, vlen] using h
    have : L ≠ M := fun e => h' (by rw [e])
    simp [denL, SV.den, BE.den, this]
  · have h' : L.length = M.length := by have : (L.length : Int) = M.length := by simpa [BE.den, IE.den, nth, vlen] using h
                                        omega
    refine den_for L.length (fun j w => ∀ i : Nat, i < j → L[i]? = M[i]?) ⟨rfl, fun w _ i hi => by omega⟩ ?_
    intro j w1 hj hI hk hfa
    refine den_norm (by simp only [List.cons_append, List.nil_append]; rfl) (den_splitLt (fun hlt => ?_) (fun hge => ?_))
    · have hlt' : j < L.length := by have : (j : Int) < L.length := hlt
                                     omega
      have hlt2 : j < M.length := by omega
      have hx : L[j]? = some L[j] := by simp [hlt']
      have hy : M[j]? = some M[j] := by simp [hlt2]
      refine den_start1 fun w2 h2 => ?_
      refine den_idxD (E := pcE) (L := L) L[j] j (pcE.enc L[j]) rfl (by decide) rfl hx ⟨⟨_, rfl⟩, ⟨_, rfl⟩, trivial⟩ (whole _) (hs.same h2.base) (fun ad _ => by simp [BlkIn]) (den_norm (by simp only [List.cons_append, List.nil_append, pcE]; rfl) ?_)
      refine den_idxD (E := pcE) (L := M) M[j] j (pcE.enc M[j]) rfl (by decide) rfl hy ⟨⟨_, rfl⟩, ⟨_, rfl⟩, trivial⟩ (whole _) (ht.same h2.base) (fun ad _ => by simp [BlkIn]) (den_norm (by simp only [List.cons_append, List.nil_append, pcE]; rfl) ?_)
      refine den_pur [.bool !(decide (L[j] = M[j]))] ⟨⟨_, rfl⟩, trivial⟩ (fun ρ hρ w' _ => ?_) (den_norm (by simp only [List.cons_append, List.nil_append]; rfl) ?_)
      · have e1 := hρ _ (List.mem_cons_self ..)
        have e2 := hρ _ (List.mem_cons_of_mem _ (List.mem_cons_self ..))
        obtain ⟨k1, k2⟩ := flat36 L[j].1 L[j].2 M[j].1 M[j].2
        have := run_neqFlat underlying36 stood36 guard36 _ _ k1 ρ _ _ 36 4 e1 e2 w'
        rw [k2] at this
        exact this
      · refine den_split (fun he => den_leaf_ne (by decide) (den_leaf ?_)) (fun he => ?_)
        · have he' : L[j] ≠ M[j] := by simpa [BE.den, nth, vbool] using he
          have : L ≠ M := fun e => he' (by subst e; rfl)
          simp [denL, SV.den, BE.den, this]
        · have he' : L[j] = M[j] := by simpa [BE.den, nth, vbool] using he
          refine den_ob64 (by simp only [IE.den, nth, vint]; omega) (den_next rfl hlt' fun w _ i hi => ?_)
          by_cases hij : i = j
          · subst hij; rw [hx, hy, he']
          · exact hI i (by omega)
    · have hge' : L.length ≤ j := by have : (L.length : Int) ≤ j := hge
                                     omega
      have : L = M := List.ext_getElem? fun i => by
        by_cases hi : i < L.length
        · exact hI i (by omega)
        · rw [List.getElem?_eq_none (by omega), List.getElem?_eq_none (by omega)]
      refine den_leaf_ne (by decide) (den_leaf ?_)
      simp [denL, SV.den, BE.den, this]
/-- what Pieces returns -/
def PieceR (u p b o lba n : Int) (power : Bool) (w : World) (s : Value) (e : Int) : Prop := ∃ L, Mine pcE 36 w s L ∧ (L.length ≤ 65536) ∧
  ((cfgOk u p b o && okBlk lba n) = false ∧ L = [] ∧ e = 2 ∨ (cfgOk u p b o && okBlk lba n) = true ∧ e = 0 ∧ Cut (limOf u p power) b o lba n L)
theorem pieceR {u p b o lba n : Int} {power : Bool} {w w0 : World} {s : Value} {e : Int} (h : (cfgOk u p b o && okBlk lba n) = false ∧ s = .slice none 0 0 ∧ e = 2 ∨ (cfgOk u p b o && okBlk lba n) = true ∧ e = 0 ∧ ∃ L, Cut (limOf u p power) b o lba n L ∧ (L.length : Int) ≤ n ∧ Mine pcE 36 w s L ∧ ∀ g, s.ownBlock = some g → w0.heap.size ≤ g) :
    PieceR u p b o lba n power w s e ∧ ∀ g, s.ownBlock = some g → w0.heap.size ≤ g := by
  rcases h with ⟨h1, rfl, rfl⟩ | ⟨h1, rfl, L, h2, h3, h4, h5⟩
  · exact ⟨⟨[], Mine.nil, by simp, .inl ⟨h1, rfl, rfl⟩⟩, fun g hg => by cases hg⟩
  · obtain ⟨hc1, hc2⟩ := Bool.and_eq_true_iff.1 h1
    have := (fine_of hc1 hc2).hn
    exact ⟨⟨L, h4, by omega, .inr ⟨h1, rfl, h2⟩⟩, h5⟩
theorem c14 (u p b o lba n : Int) (power : Bool) (no : Int) (t : Value) (M : List (Int × Int)) (w : World) (ht : Arr pcE w t M) :
    GivesR Try.prog 14 [.agg #[.int .i64 u, .int .i64 p, .int .i64 b, .int .i64 o], .int .i64 lba, .int .i64 n, .bool power, .int .i64 no, t] w (fun v _ => ∃ (L : List (Int × Int)) (e : Int), L.length ≤ 65536 ∧ ((cfgOk u p b o && okBlk lba n) = false ∧ L = [] ∧ e = 2 ∨ (cfgOk u p b o && okBlk lba n) = true ∧ e = 0 ∧ Cut (limOf u p power) b o lba n L) ∧ v = .bool (decide (L = M) && decide (e = no))) := by
  obtain ⟨at_, ct, hts⟩ := ht.slice
  refine givesR mix t14 rfl rfl (ε := [.int .i64 u, .int .i64 p, .int .i64 b, .int .i64 o, .int .i64 lba, .int .i64 n, .bool power, .int .i64 no, t]) ⟨⟨_, rfl⟩, ⟨_, rfl⟩, ⟨_, rfl⟩, ⟨_, rfl⟩, ⟨_, rfl⟩, ⟨_, rfl⟩, ⟨_, rfl⟩, ⟨_, rfl⟩, ⟨_, _, _, hts⟩, trivial⟩ (den_blk fun b9 h9 _ _ => den_norm (by simp only [List.cons_append, List.nil_append]; rfl) ?_)
  refine den_callR (fun w l w' => ∃ s e, l = [s, .int .i64 e] ∧ PieceR u p b o lba n power w' s e ∧ ∀ g, s.ownBlock = some g → w.heap.size ≤ g) (fun w1 h1 => ?_) (fun w1 l w2 h1 hf hR hs12 => ?_)
  · refine (c20 u p b o lba n power w1).mono fun v w' ⟨s, e, hv, hr⟩ => ?_
    obtain ⟨h2, h3⟩ := pieceR (w0 := w1) hr
    obtain ⟨L, hL, _⟩ := h2
    obtain ⟨a, c, hs⟩ := hL.slice
    exact ⟨[s, .int .i64 e], ⟨⟨_, _, _, hs⟩, ⟨_, rfl⟩, trivial⟩, hv, s, e, rfl, ⟨L, hL, ‹_›⟩, h3⟩
  · obtain ⟨s, e, rfl, ⟨L, hL, hlen, hcut⟩, hfr⟩ := hR
    refine den_norm (by simp only [List.cons_append, List.nil_append]; rfl) ?_
    refine den_call_bool (b := decide (L = M)) (fun w3 h3 => c32 _ _ L M w3 ?_ (ht.same h3.base) (by omega)) rfl (fun w3 w4 h3 h4 => den_norm (by simp only [List.cons_append, List.nil_append]; rfl) (den_split (fun h5 => ?_) (fun h5 => den_leafR _ rfl fun w5 h6 => ⟨L, e, hlen, hcut, ?_⟩)))
    · refine (hL.kept h3.kept fun g hg hin => ?_).arr
      have := hfr g hg
      have := h1.lt (i := 9) (b := b9) (by simp [keys]) rfl
      simp [BlkIn, nth, blkOf, vaddr] at hin
      all_goals
        omega
    · have h5' : decide (L = M) = true := h5
      refine den_call_int (x := e) (fun w5 h6 => c15 e w5) rfl (fun w5 w6 h6 h7 => den_leafR _ rfl fun w7 h8 => ⟨L, e, hlen, hcut, ?_⟩)
      rw [h5']; simp [SV.den, BE.den, IE.den, nth, vint]
    · have h5' : decide (L = M) = false := h5
      rw [h5']; simp [SV.den, BE.den]
theorem c11 (u p b o lba n : Int) (power : Bool) (w : World) :
    GivesR Try.prog 11 [.agg #[.int .i64 u, .int .i64 p, .int .i64 b, .int .i64 o], .int .i64 lba, .int .i64 n, .bool power] w (fun v _ => ∃ (L : List (Int × Int)) (e : Int), L.length ≤ 65536 ∧ ((cfgOk u p b o && okBlk lba n) = false ∧ L = [] ∧ e = 2 ∨ (cfgOk u p b o && okBlk lba n) = true ∧ e = 0 ∧ Cut (limOf u p power) b o lba n L) ∧ v = .tuple #[.bool (decide ((L.length : Int) = 1)), .int .i64 e]) := by
  refine givesR mix t11 rfl rfl (ε := [.int .i64 u, .int .i64 p, .int .i64 b, .int .i64 o, .int .i64 lba, .int .i64 n, .bool power]) ⟨⟨_, rfl⟩, ⟨_, rfl⟩, ⟨_, rfl⟩, ⟨_, rfl⟩, ⟨_, rfl⟩, ⟨_, rfl⟩, ⟨_, rfl⟩, trivial⟩ (den_blk fun b9 h9 _ _ => den_norm (by simp only [List.cons_append, List.nil_append]; rfl) ?_)
  refine den_callR (fun w l w' => ∃ s e, l = [s, .int .i64 e] ∧ PieceR u p b o lba n power w' s e) (fun w1 h1 => ?_) (fun w1 l w2 h1 hf hR hs12 => ?_)
  · refine (c20 u p b o lba n power w1).mono fun v w' ⟨s, e, hv, hr⟩ => ?_
    obtain ⟨h2, h3⟩ := pieceR (w0 := w1) hr
    obtain ⟨L, hL, _⟩ := h2
    obtain ⟨a, c, hs⟩ := hL.slice
    exact ⟨[s, .int .i64 e], ⟨⟨_, _, _, hs⟩, ⟨_, rfl⟩, trivial⟩, hv, s, e, rfl, ⟨L, hL, ‹_›⟩⟩
  · obtain ⟨s, e, rfl, ⟨L, hL, hlen, hcut⟩⟩ := hR
    obtain ⟨a, c, rfl⟩ := hL.slice
    exact den_norm (by simp only [List.cons_append, List.nil_append]; rfl) (den_leafR _ rfl fun w5 h6 => ⟨L, e, hlen, hcut, rfl⟩)
end Go.Proofs.Ytfjimghpjopgoaa
