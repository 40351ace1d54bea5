/- Lists in slices: clone, index, delete, the first element that is taken. No conditions beyond those that each theorem names. -/
import Derived.Test.YtfjlnfgbfclgbaaA
set_option maxRecDepth 100000
set_option maxHeartbeats 1000000
set_option linter.unusedVariables false
set_option linter.unusedSimpArgs false
namespace Go.Proofs.Ytfjlnfgbfclgbaa
open Go.Sx

def hE : Enc Int := ⟨fun n => [.int .u16 n], 1, fun _ => rfl⟩
theorem ntc_one (x : Ntc) : ∀ u ∈ ntcE.enc x, u.oneCell' = true := by intro u hu; simp [ntcE, Ntc.cells] at hu; rcases hu with rfl | rfl | rfl <;> rfl
theorem h_one (x : Int) : ∀ u ∈ hE.enc x, u.oneCell' = true := by intro u hu; simp [hE] at hu; subst hu; rfl
theorem u57 : Try.prog.underlying 57 = some (.slice 23) := Try.underlying57
theorem u35 : Try.prog.underlying 35 = some (.slice 37) := Try.underlying35
theorem i23 : Try.prog.info? 23 = some Try.t23 := by kernel_rfl
theorem i37 : Try.prog.info? 37 = some Try.t37 := by kernel_rfl
def zN : Value := .agg #[.int .u8 0, .int .u8 0, .int .u8 0]
theorem z23 : Try.t23.zero = some zN := by kernel_rfl
theorem z37 : Try.t37.zero = some (.int .u16 0) := by kernel_rfl
theorem s23 : Try.t23.size = ntcE.sz := by kernel_rfl
theorem s37 : Try.t37.size = hE.sz := by kernel_rfl
theorem by23 : Try.t23.bytes ≤ 1000 := by decide +kernel
theorem by37 : Try.t37.bytes ≤ 1000 := by decide +kernel
theorem st23 : sizeT Try.prog 23 = some 3 := by kernel_rfl
theorem st37 : sizeT Try.prog 37 = some 1 := by kernel_rfl
theorem zt23 : zeroT Try.prog 23 = some zN := by kernel_rfl
theorem zt37 : zeroT Try.prog 37 = some (.int .u16 0) := by kernel_rfl
theorem zoN : ∀ u ∈ zN.cells.toList, u.oneCell' = true := by intro u hu; simp [zN, Value.cells] at hu; subst hu; rfl
theorem zoH : ∀ u ∈ (Value.int .u16 0).cells.toList, u.oneCell' = true := by intro u hu; simp [Value.cells] at hu; subst hu; rfl

theorem c36 (s : Value) (L : List Ntc) (w : World) (hs : Arr ntcE w s L) (hm : L.length ≤ 60000000000) : GivesR Try.prog 36 [s] w (fun v w' => Mine ntcE 23 w' v L ∧ (∀ g, v.ownBlock = some g → w.heap.size ≤ g) ∧ (vnil v = true → L = [])) :=
  clone_slice mix t36 u57 i23 z23 s23 rfl (by decide) by23 ntc_one s L w hs hm
theorem c42 (s : Value) (L : List Int) (w : World) (hs : Arr hE w s L) (hm : L.length ≤ 60000000000) : GivesR Try.prog 42 [s] w (fun v w' => Mine hE 37 w' v L ∧ (∀ g, v.ownBlock = some g → w.heap.size ≤ g) ∧ (vnil v = true → L = [])) :=
  clone_slice mix t42 u35 i37 z37 s37 rfl (by decide) by37 h_one s L w hs hm
/-- slices.Delete(s, i, i + 1) -/
theorem c61 (g n cp : Nat) (L : List Ntc) (i : Nat) (w : World) (hs : Mine ntcE 23 w (.slice (some ⟨g, 0, none⟩) n cp) L) (hi : i < L.length) (hm : L.length ≤ 60000000000) :
    Runs Try.prog 61 [.slice (some ⟨g, 0, none⟩) n cp, .int .i64 i, .int .i64 ((i : Int) + 1)] w (fun b => b = g) (fun v w' => Mine ntcE 23 w' v (L.eraseIdx i) ∧ v.ownBlock = some g) := by
  obtain ⟨a', c', e⟩ := hs.slice
  have hn : n = L.length := by cases e; rfl
  have hcap : L.length ≤ cp := hs.cap
  refine runs mix t61 rfl rfl (ε := [.slice (some ⟨g, 0, none⟩) n cp, .int .i64 i, .int .i64 ((i : Int) + 1)]) ⟨⟨_, _, _, rfl⟩, ⟨_, rfl⟩, ⟨_, rfl⟩, trivial⟩ trivial (by simp [keys]) (by simp [keys]) (by simp [keys]) ?_
  have e1 : ((i : Int) + 1) = ((i + 1 : Nat) : Int) := by simp
  refine den_start0 fun w1 h1 => den_slice (some ⟨g, 0, none⟩) n cp (some i) (some ((i + 1 : Nat) : Int)) (some (n : Int)) i (i + 1) n 3 u57 st23 (fun ρ h => h.1) (fun ρ h => congrArg some h.2.1) (fun ρ h => congrArg some (h.2.2.1.trans (by simp only [SV.den, IE.den, nth, vint]; rw [e1]))) (fun ρ h => congrArg some h.2.2.2.1) (.inr ⟨rfl, by omega⟩) (.inr ⟨rfl, by omega⟩) (.inr ⟨rfl, by omega⟩) (fun _ => rfl) ?_
  refine den_norm (by simp only [List.cons_append, List.nil_append]; rfl) (den_splitEq (fun h => ?_) (fun _ w2 h2 => ⟨fun b => b = g, fun b hb => by simp [BlkIn] at hb, ?_⟩))
  · simp only [IE.den, nth, vint] at h; omega
  have k1 : Same w1 w2 := shown_same h2
  have k0 : Same w w1 := h1.kept.mono fun b _ hb => by simp [BlkIn, keys] at hb
  refine den_slice (some ⟨g, 0, none⟩) n cp none (some i) none 0 i cp 3 u57 st23 (fun ρ h => h.1) (fun _ _ => rfl) (fun ρ h => congrArg some h.2.1) (fun _ _ => rfl) (.inl ⟨rfl, rfl⟩) (.inr ⟨rfl, by omega⟩) (.inl ⟨rfl, rfl⟩) (fun _ => rfl) ?_
  refine den_norm (by simp only [List.cons_append, List.nil_append]; rfl) ?_
  refine den_slice (some ⟨g, 0, none⟩) n cp (some ((i + 1 : Nat) : Int)) none none (i + 1) n cp 3 u57 st23 (fun ρ h => h.1) (fun ρ h => congrArg some (h.2.1.trans (by simp only [SV.den, IE.den, nth, vint]; rw [e1]))) (fun _ _ => rfl) (fun _ _ => rfl) (.inl ⟨rfl, rfl⟩) (.inl ⟨rfl, rfl, rfl⟩) (.inr ⟨rfl, by omega⟩) (fun _ => rfl) ?_
  refine den_norm (by simp only [List.cons_append, List.nil_append]; rfl) ?_
  refine den_appendL (E := ntcE) (T := 23) rfl u57 i23 z23 s23 rfl (by decide) by23 ntc_one (.slice (some ⟨g, 0, none⟩) i cp) (sliced (some ⟨g, 0, none⟩) (i + 1) n cp 3) (L.take i) (L.drop (i + 1)) (by simp only [SV.den, nth]; exact sliced0 _ _ _ _) rfl (fun n c e => by simp only [sliced, Option.map_some] at e; split at e <;> cases e) (by simp; omega) (fun b hb _ => by cases hb; exact .inr rfl) (by simp) ?_ (fun b _ _ hb => by simp [BlkIn] at hb) (fun _ b hb _ => by cases hb; rfl) (fun _ => rfl) ?_
  · intro w3 h3
    have hM := ((hs.same k0).same k1).same (shown_same h3)
    refine ⟨hM.take (by omega), ?_⟩
    have := hM.arr.sub (l := i + 1) (k := n) (m := cp) (by omega) (Nat.le_refl _) (by omega)
    rw [List.take_of_length_le (by omega)] at this
    exact this
  · intro w3 s' w4 h3 ho hk hfr hap
    rcases hfr with ⟨eb, ec⟩ | ⟨b', _, _, hlt⟩
    · have hlen : (L.take i ++ L.drop (i + 1)).length = n - 1 := by simp; omega
      obtain ⟨c4, rfl⟩ : ∃ c4, s' = .slice (some ⟨g, 0, none⟩) (n - 1) c4 := by
        rcases ho.forms with ⟨rfl, _⟩ | ⟨g', c, cur, ty, rfl, _⟩
        · cases eb
        · cases eb; exact ⟨c, by rw [hlen]⟩
      simp only [vcap] at ec
      subst ec
      have he : L.take i ++ L.drop (i + 1) = L.eraseIdx i := (List.eraseIdx_eq_take_drop_succ L i).symm
      rw [he] at ho
      refine den_norm (by simp only [List.cons_append, List.nil_append]; rfl) (den_start0 fun w5 h5 => ?_)
      refine den_slice (some ⟨g, 0, none⟩) (n - 1) c4 (some ((n - 1 : Nat) : Int)) (some (n : Int)) none (n - 1) n c4 3 u57 st23 (fun ρ h => h.1) (fun ρ h => congrArg some h.2.1) (fun ρ h => congrArg some h.2.2.1) (fun _ _ => rfl) (.inl ⟨rfl, rfl⟩) (.inr ⟨rfl, by omega⟩) (.inr ⟨rfl, by omega⟩) (fun _ => rfl) ?_
      refine den_norm (by simp only [List.cons_append, List.nil_append]; rfl) ?_
      exact den_clear (E := ntcE) (T := 23) rfl u57 zt23 (by kernel_rfl) zoN g (n - 1) c4 n (L.eraseIdx i) rfl (by omega) (by omega) (fun w6 h6 => (ho.same (shown_same h5)).same (shown_same h6)) ⟨fun hd => (by cases hd), fun _ => rfl, by simp [BlkIn]⟩ (fun w6 w7 h6 ho7 hk7 => den_leafA _ rfl fun w8 h8 => ⟨ho7.same (shown_same h8), rfl⟩)
    · simp only [vcap, List.length_take, List.length_drop] at hlt
      omega
/-- slices.Delete(s, i, i + 1) -/
theorem c64 (g n cp : Nat) (L : List Int) (i : Nat) (w : World) (hs : Mine hE 37 w (.slice (some ⟨g, 0, none⟩) n cp) L) (hi : i < L.length) (hm : L.length ≤ 60000000000) :
    Runs Try.prog 64 [.slice (some ⟨g, 0, none⟩) n cp, .int .i64 i, .int .i64 ((i : Int) + 1)] w (fun b => b = g) (fun v w' => Mine hE 37 w' v (L.eraseIdx i) ∧ v.ownBlock = some g) := by
  obtain ⟨a', c', e⟩ := hs.slice
  have hn : n = L.length := by cases e; rfl
  have hcap : L.length ≤ cp := hs.cap
  refine runs mix t64 rfl rfl (ε := [.slice (some ⟨g, 0, none⟩) n cp, .int .i64 i, .int .i64 ((i : Int) + 1)]) ⟨⟨_, _, _, rfl⟩, ⟨_, rfl⟩, ⟨_, rfl⟩, trivial⟩ trivial (by simp [keys]) (by simp [keys]) (by simp [keys]) ?_
  have e1 : ((i : Int) + 1) = ((i + 1 : Nat) : Int) := by simp
  refine den_start0 fun w1 h1 => den_slice (some ⟨g, 0, none⟩) n cp (some i) (some ((i + 1 : Nat) : Int)) (some (n : Int)) i (i + 1) n 1 u35 st37 (fun ρ h => h.1) (fun ρ h => congrArg some h.2.1) (fun ρ h => congrArg some (h.2.2.1.trans (by simp only [SV.den, IE.den, nth, vint]; rw [e1]))) (fun ρ h => congrArg some h.2.2.2.1) (.inr ⟨rfl, by omega⟩) (.inr ⟨rfl, by omega⟩) (.inr ⟨rfl, by omega⟩) (fun _ => rfl) ?_
  refine den_norm (by simp only [List.cons_append, List.nil_append]; rfl) (den_splitEq (fun h => ?_) (fun _ w2 h2 => ⟨fun b => b = g, fun b hb => by simp [BlkIn] at hb, ?_⟩))
  · simp only [IE.den, nth, vint] at h; omega
  have k1 : Same w1 w2 := shown_same h2
  have k0 : Same w w1 := h1.kept.mono fun b _ hb => by simp [BlkIn, keys] at hb
  refine den_slice (some ⟨g, 0, none⟩) n cp none (some i) none 0 i cp 1 u35 st37 (fun ρ h => h.1) (fun _ _ => rfl) (fun ρ h => congrArg some h.2.1) (fun _ _ => rfl) (.inl ⟨rfl, rfl⟩) (.inr ⟨rfl, by omega⟩) (.inl ⟨rfl, rfl⟩) (fun _ => rfl) ?_
  refine den_norm (by simp only [List.cons_append, List.nil_append]; rfl) ?_
  refine den_slice (some ⟨g, 0, none⟩) n cp (some ((i + 1 : Nat) : Int)) none none (i + 1) n cp 1 u35 st37 (fun ρ h => h.1) (fun ρ h => congrArg some (h.2.1.trans (by simp only [SV.den, IE.den, nth, vint]; rw [e1]))) (fun _ _ => rfl) (fun _ _ => rfl) (.inl ⟨rfl, rfl⟩) (.inl ⟨rfl, rfl, rfl⟩) (.inr ⟨rfl, by omega⟩) (fun _ => rfl) ?_
  refine den_norm (by simp only [List.cons_append, List.nil_append]; rfl) ?_
  refine den_appendL (E := hE) (T := 37) rfl u35 i37 z37 s37 rfl (by decide) by37 h_one (.slice (some ⟨g, 0, none⟩) i cp) (sliced (some ⟨g, 0, none⟩) (i + 1) n cp 1) (L.take i) (L.drop (i + 1)) (by simp only [SV.den, nth]; exact sliced0 _ _ _ _) rfl (fun n c e => by simp only [sliced, Option.map_some] at e; split at e <;> cases e) (by simp; omega) (fun b hb _ => by cases hb; exact .inr rfl) (by simp) ?_ (fun b _ _ hb => by simp [BlkIn] at hb) (fun _ b hb _ => by cases hb; rfl) (fun _ => rfl) ?_
  · intro w3 h3
    have hM := ((hs.same k0).same k1).same (shown_same h3)
    refine ⟨hM.take (by omega), ?_⟩
    have := hM.arr.sub (l := i + 1) (k := n) (m := cp) (by omega) (Nat.le_refl _) (by omega)
    rw [List.take_of_length_le (by omega)] at this
    exact this
  · intro w3 s' w4 h3 ho hk hfr hap
    rcases hfr with ⟨eb, ec⟩ | ⟨b', _, _, hlt⟩
    · have hlen : (L.take i ++ L.drop (i + 1)).length = n - 1 := by simp; omega
      obtain ⟨c4, rfl⟩ : ∃ c4, s' = .slice (some ⟨g, 0, none⟩) (n - 1) c4 := by
        rcases ho.forms with ⟨rfl, _⟩ | ⟨g', c, cur, ty, rfl, _⟩
        · cases eb
        · cases eb; exact ⟨c, by rw [hlen]⟩
      simp only [vcap] at ec
      subst ec
      have he : L.take i ++ L.drop (i + 1) = L.eraseIdx i := (List.eraseIdx_eq_take_drop_succ L i).symm
      rw [he] at ho
      refine den_norm (by simp only [List.cons_append, List.nil_append]; rfl) (den_start0 fun w5 h5 => ?_)
      refine den_slice (some ⟨g, 0, none⟩) (n - 1) c4 (some ((n - 1 : Nat) : Int)) (some (n : Int)) none (n - 1) n c4 1 u35 st37 (fun ρ h => h.1) (fun ρ h => congrArg some h.2.1) (fun ρ h => congrArg some h.2.2.1) (fun _ _ => rfl) (.inl ⟨rfl, rfl⟩) (.inr ⟨rfl, by omega⟩) (.inr ⟨rfl, by omega⟩) (fun _ => rfl) ?_
      refine den_norm (by simp only [List.cons_append, List.nil_append]; rfl) ?_
      exact den_clear (E := hE) (T := 37) rfl u35 zt37 (by kernel_rfl) zoH g (n - 1) c4 n (L.eraseIdx i) rfl (by omega) (by omega) (fun w6 h6 => (ho.same (shown_same h5)).same (shown_same h6)) ⟨fun hd => (by cases hd), fun _ => rfl, by simp [BlkIn]⟩ (fun w6 w7 h6 ho7 hk7 => den_leafA _ rfl fun w8 h8 => ⟨ho7.same (shown_same h8), rfl⟩)
    · simp only [vcap, List.length_take, List.length_drop] at hlt
      omega
/-- slices.IndexFunc -/
theorem c59 (s fv : Value) (L : List Ntc) (p : Ntc → Bool) (g : Nat) (caps : List Value) (w : World) (hm : L.length < 9223372036854775808) (hs : Arr ntcE w s L)
    (hf : fv = .func (.func g) #[] caps.toArray) (hg : goFunc Try.prog g = true) (hp : ∀ x w', x ∈ L → Same w w' → Gives Try.prog g ([x.v] ++ caps) w' (.bool (p x))) :
    Gives Try.prog 59 [s, fv] w (.int .i64 (Sx.idxFrom (fun _ x => p x) 0 L)) := by
  obtain ⟨a, c, rfl⟩ := hs.slice
  subst hf
  refine gives mix t59 rfl rfl (ε := [.slice a L.length c, .func (.func g) #[] caps.toArray]) ⟨⟨_, _, _, rfl⟩, rfl, trivial⟩ ?_
  refine den_for L.length (fun j w' => ∀ (i : Nat) y, i < j → L[i]? = some y → p y = false) ⟨rfl, fun w _ i y hi => by omega⟩ ?_
  intro j w1 hj hI hk hfa
  refine den_norm (by simp only [List.cons_append, List.nil_append]; rfl) (den_splitLt (fun hlt => ?_) (fun hge => ?_))
  · have hlt' : j < L.length := by simpa [IE.den, nth, vint, vlen] using hlt
    have hx : L[j]? = some (L[j]'hlt') := by simp
    generalize L[j]'hlt' = x at hx
    refine den_idx2 (E := ntcE) (L := L) x j x.cells (hs.same hk) rfl (by decide) rfl hx ⟨⟨_, rfl⟩, ⟨_, rfl⟩, ⟨_, rfl⟩, trivial⟩ (whole _) (fun w2 h2 => hs.same h2.base) (fun ad had => by simp [BlkIn, nth, blkOf, vaddr]) (fun w2 h2 => den_norm (by simp only [List.cons_append, List.nil_append]; rfl) ?_)
    refine den_callF rfl rfl hg (fun _ _ => False) (fun w3 l w4 => l = [.bool (p x)]) (fun _ _ _ h _ => h.elim) (fun w3 h3 => ?_) (fun w3 l w4 h3 hfl hR hk3 => ?_)
    · have := hp x w3 (List.mem_of_getElem? hx) h3.base
      exact ⟨Calls.mono this.run fun e w' ⟨h1, h2⟩ => ⟨_, h1, ⟨[.bool (p x)], ⟨⟨_, rfl⟩, trivial⟩, rfl, rfl⟩, h2⟩⟩
    subst hR
    refine den_norm (by simp only [List.cons_append, List.nil_append]; rfl) (den_split (fun h4 => ?_) (fun h4 => ?_))
    · have h4' : p x = true := h4
      refine den_leaf_ne (by decide) (den_leaf ?_)
      rw [Sx.idxFrom_found (fun _ x => p x) L 0 j x hx h4' (fun i y hi hy => hI i y hi hy)]
      simp [denL, SV.den, IE.den, nth, vint]
    · have h4' : p x = false := h4
      refine den_ob64 (by simp only [IE.den, nth, vint]; omega) (den_next rfl hlt' fun w5 _ i y hi hy => ?_)
      by_cases hij : i = j
      · subst hij
        rw [hx] at hy
        cases hy
        exact h4'
      · exact hI i y (by omega) hy
  · have hge' : L.length ≤ j := by simpa [IE.den, nth, vint, vlen] using hge
    refine den_leaf_ne (by decide) (den_leaf ?_)
    rw [Sx.idxFrom_none (fun _ x => p x) L 0 (fun i y hy => hI i y (Nat.lt_of_lt_of_le (List.getElem?_eq_some_iff.1 hy).1 hge') hy)]
    rfl
/-- slices.IndexFunc -/
theorem c63 (s fv : Value) (L : List Int) (p : Int → Bool) (g : Nat) (caps : List Value) (w : World) (hm : L.length < 9223372036854775808) (hs : Arr hE w s L)
    (hf : fv = .func (.func g) #[] caps.toArray) (hg : goFunc Try.prog g = true) (hp : ∀ x w', x ∈ L → Same w w' → Gives Try.prog g ([.int .u16 x] ++ caps) w' (.bool (p x))) :
    Gives Try.prog 63 [s, fv] w (.int .i64 (Sx.idxFrom (fun _ x => p x) 0 L)) := by
  obtain ⟨a, c, rfl⟩ := hs.slice
  subst hf
  refine gives mix t63 rfl rfl (ε := [.slice a L.length c, .func (.func g) #[] caps.toArray]) ⟨⟨_, _, _, rfl⟩, rfl, trivial⟩ ?_
  refine den_for L.length (fun j w' => ∀ (i : Nat) y, i < j → L[i]? = some y → p y = false) ⟨rfl, fun w _ i y hi => by omega⟩ ?_
  intro j w1 hj hI hk hfa
  refine den_norm (by simp only [List.cons_append, List.nil_append]; rfl) (den_splitLt (fun hlt => ?_) (fun hge => ?_))
  · have hlt' : j < L.length := by simpa [IE.den, nth, vint, vlen] using hlt
    have hx : L[j]? = some (L[j]'hlt') := by simp
    generalize L[j]'hlt' = x at hx
    refine den_idx2 (E := hE) (L := L) x j [.int .u16 x] (hs.same hk) rfl (by decide) rfl hx ⟨⟨_, rfl⟩, trivial⟩ (whole _) (fun w2 h2 => hs.same h2.base) (fun ad had => by simp [BlkIn, nth, blkOf, vaddr]) (fun w2 h2 => den_norm (by simp only [List.cons_append, List.nil_append]; rfl) ?_)
    refine den_callF rfl rfl hg (fun _ _ => False) (fun w3 l w4 => l = [.bool (p x)]) (fun _ _ _ h _ => h.elim) (fun w3 h3 => ?_) (fun w3 l w4 h3 hfl hR hk3 => ?_)
    · have := hp x w3 (List.mem_of_getElem? hx) h3.base
      exact ⟨Calls.mono this.run fun e w' ⟨h1, h2⟩ => ⟨_, h1, ⟨[.bool (p x)], ⟨⟨_, rfl⟩, trivial⟩, rfl, rfl⟩, h2⟩⟩
    subst hR
    refine den_norm (by simp only [List.cons_append, List.nil_append]; rfl) (den_split (fun h4 => ?_) (fun h4 => ?_))
    · have h4' : p x = true := h4
      refine den_leaf_ne (by decide) (den_leaf ?_)
      rw [Sx.idxFrom_found (fun _ x => p x) L 0 j x hx h4' (fun i y hi hy => hI i y hi hy)]
      simp [denL, SV.den, IE.den, nth, vint]
    · have h4' : p x = false := h4
      refine den_ob64 (by simp only [IE.den, nth, vint]; omega) (den_next rfl hlt' fun w5 _ i y hi hy => ?_)
      by_cases hij : i = j
      · subst hij
        rw [hx] at hy
        cases hy
        exact h4'
      · exact hI i y (by omega) hy
  · have hge' : L.length ≤ j := by simpa [IE.den, nth, vint, vlen] using hge
    refine den_leaf_ne (by decide) (den_leaf ?_)
    rw [Sx.idxFrom_none (fun _ x => p x) L 0 (fun i y hy => hI i y (Nat.lt_of_lt_of_le (List.getElem?_eq_some_iff.1 hy).1 hge') hy)]
    rfl
theorem go59 : True := trivial
theorem c60 (s : Value) (L : List Int) (v : Int) (w : World) (hm : L.length < 9223372036854775808) (hs : Arr hE w s L) : Gives Try.prog 60 [s, .int .u16 v] w (.int .i64 (Sx.idxFrom (fun _ x => decide (v = x)) 0 L)) := by
  obtain ⟨a, c, rfl⟩ := hs.slice
  refine gives mix t60 rfl rfl (ε := [.slice a L.length c, .int .u16 v]) ⟨⟨_, _, _, rfl⟩, ⟨_, rfl⟩, trivial⟩ ?_
  refine den_for L.length (fun j w' => ∀ (i : Nat) y, i < j → L[i]? = some y → decide (v = y) = false) ⟨rfl, fun w _ i y hi => by omega⟩ ?_
  intro j w1 hj hI hk hfa
  refine den_norm (by simp only [List.cons_append, List.nil_append]; rfl) (den_splitLt (fun hlt => ?_) (fun hge => ?_))
  · have hlt' : j < L.length := by simpa [IE.den, nth, vint, vlen] using hlt
    have hx : L[j]? = some (L[j]'hlt') := by simp
    generalize L[j]'hlt' = x at hx
    refine den_idx2 (E := hE) (L := L) x j [.int .u16 x] (hs.same hk) rfl (by decide) rfl hx ⟨⟨_, rfl⟩, trivial⟩ (whole _) (fun w2 h2 => hs.same h2.base) (fun ad had => by simp [BlkIn, nth, blkOf, vaddr]) (fun w2 h2 => den_norm (by simp only [List.cons_append, List.nil_append]; rfl) ?_)
    refine den_splitEq (fun h4 => ?_) (fun h4 => ?_)
    · have h4' : v = x := h4
      refine den_leaf_ne (by decide) (den_leaf ?_)
      rw [Sx.idxFrom_found (fun _ x => decide (v = x)) L 0 j x hx (decide_eq_true h4') (fun i y hi hy => hI i y hi hy)]
      simp [denL, SV.den, IE.den, nth, vint]
    · have h4' : v ≠ x := h4
      refine den_ob64 (by simp only [IE.den, nth, vint]; omega) (den_next rfl hlt' fun w5 _ i y hi hy => ?_)
      by_cases hij : i = j
      · subst hij
        rw [hx] at hy
        cases hy
        exact decide_eq_false h4'
      · exact hI i y (by omega) hy
  · have hge' : L.length ≤ j := by simpa [IE.den, nth, vint, vlen] using hge
    refine den_leaf_ne (by decide) (den_leaf ?_)
    rw [Sx.idxFrom_none (fun _ x => decide (v = x)) L 0 (fun i y hy => hI i y (Nat.lt_of_lt_of_le (List.getElem?_eq_some_iff.1 hy).1 hge') hy)]
    rfl
theorem c41 (s : Value) (L : List Int) (v : Int) (w : World) (hm : L.length < 9223372036854775808) (hs : Arr hE w s L) : Gives Try.prog 41 [s, .int .u16 v] w (.bool (L.any fun x => decide (v = x))) := by
  obtain ⟨a, c, rfl⟩ := hs.slice
  refine gives mix t41 rfl rfl (ε := [.slice a L.length c, .int .u16 v]) ⟨⟨_, _, _, rfl⟩, ⟨_, rfl⟩, trivial⟩ ?_
  refine den_call_int (x := Sx.idxFrom (fun _ x => decide (v = x)) 0 L) (fun w1 h1 => c60 _ L v w1 hm (hs.same h1.base)) rfl (fun _ _ _ _ => den_norm (by simp only [List.cons_append, List.nil_append]; rfl) (den_leaf ?_))
  simp only [denL, SV.den, BE.den, IE.den, nth, vint, leB_eq]
  rw [contains_idx (fun x => decide (v = x)) L]
end Go.Proofs.Ytfjlnfgbfclgbaa
