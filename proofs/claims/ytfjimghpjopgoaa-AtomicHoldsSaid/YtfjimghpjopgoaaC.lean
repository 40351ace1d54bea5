/- What the functions that change an order do. No conditions beyond those that each theorem names. -/
import Derived.Test.YtfjimghpjopgoaaB
import Derived.Test.YtfjimghpjopgoaaSxZ
set_option maxRecDepth 100000
set_option linter.unusedVariables false
set_option linter.unusedSimpArgs false
namespace Go.Proofs.Ytfjimghpjopgoaa
open Go.Sx

theorem info82 : Try.prog.info? 82 = some Try.t82 := by kernel_rfl
def z82 : Value := .agg #[.int .i64 0, .int .i64 0, .int .i64 0, .bool false]
theorem zero82 : Try.t82.zero = some z82 := by kernel_rfl
theorem zeroT82 : zeroT Try.prog 82 = some z82 := by kernel_rfl
theorem bytes82 : Try.t82.bytes ≤ 1000 := by decide +kernel
theorem one4 (x : Cmd) : ∀ u ∈ cmdE.enc x, u.oneCell' = true := by intro u hu; simp [cmdE] at hu; rcases hu with rfl | rfl | rfl | rfl <;> rfl
theorem onez : ∀ u ∈ z82.cells.toList, u.oneCell' = true := by intro u hu; simp [z82, Value.cells] at hu; rcases hu with rfl | rfl <;> rfl

theorem nil_len {s : Value} {L : List Cmd} {w : World} {n c : Nat} (h : Arr cmdE w (.slice none n c) L) : L = [] ∧ n = 0 := by
  obtain ⟨a, c', e⟩ := h.slice
  cases L with
  | nil => cases e; exact ⟨rfl, rfl⟩
  | cons x L =>
    obtain ⟨ad, had, _⟩ := h.elem (j := 0) (x := x) rfl (by decide)
    cases had

/-- slices.Clone -/
theorem c44 (s : Value) (L : List Cmd) (w : World) (hs : Arr cmdE w s L) (hm : L.length ≤ 60000000000) : GivesR Try.prog 44 [s] w (fun v w' => Mine cmdE 82 w' v L ∧ ∀ g, v.ownBlock = some g → w.heap.size ≤ g) := by
  obtain ⟨a, cp, rfl⟩ := hs.slice
  refine givesR mix t44 rfl rfl (ε := [.slice a L.length cp]) ⟨⟨_, _, _, rfl⟩, trivial⟩ (den_split (fun h => ?_) (fun h => den_blk fun b hb _ _ => ?_))
  · have ha : a = none := by simpa [BE.den, nth, vnil] using h
    subst ha
    obtain ⟨rfl, _⟩ := nil_len (s := .nilFunc) hs
    exact den_leafR _ rfl fun w' hw => ⟨Mine.nil, fun g hg => by cases hg⟩
  · have ha : ∃ ad, a = some ad := by cases a with | none => simp [BE.den, nth, vnil] at h | some ad => exact ⟨ad, rfl⟩
    obtain ⟨ad, rfl⟩ := ha
    refine den_norm (by simp only [List.cons_append, List.nil_append]; rfl) ?_
    refine den_appendL (E := cmdE) (T := 82) rfl underlying38 info82 zero82 (by kernel_rfl) (by kernel_rfl) (by decide) bytes82 one4 (.slice (some ⟨b, 0, none⟩) 0 0) (.slice (some ad) L.length cp) [] L (by simp [SV.den, nth, vaddr, addO, addr_add]) rfl (fun n c e => by cases e) (by simp; omega) (fun g hg hc => by simp [vcap] at hc) (by simp [keys]) ?_ (fun g hg hc => by simp [vcap] at hc) (fun hd => by cases hd) (fun _ => rfl) ?_
    · intro w1 h1
      refine ⟨?_, hs.same h1.base⟩
      obtain ⟨b', ty, hb', hh⟩ := h1.facts.1
      cases hb'
      exact .inr ⟨rfl, b, _, ty, rfl, hh⟩
    · intro w1 s' w2 h1 ho hk hfr hap
      refine den_norm (by simp only [List.cons_append, List.nil_append]; rfl) (den_leafR s' rfl fun w3 h3 => ⟨?_, fun g hg => ?_⟩)
      · rw [List.nil_append] at ho
        rcases hfr with ⟨e, e2⟩ | ⟨b', e, hle, _⟩
        · have hc := ho.cap
          rw [e2] at hc
          simp only [vcap] at hc
          obtain rfl : L = [] := List.eq_nil_of_length_eq_zero (by omega)
          rcases ho.forms with ⟨rfl, _⟩ | ⟨g, c, cur, ty, rfl, _⟩
          · cases e
          · cases e
            simp only [vcap] at e2
            subst e2
            obtain ⟨b', ty', hb', hh⟩ := h3.facts.1
            cases hb'
            exact .inr ⟨rfl, b, _, ty', rfl, hh⟩
        · refine ho.kept h3.kept fun g hg hin => ?_
          rw [e] at hg
          cases hg
          have hlt := h1.lt (i := 1) (b := b) (by simp [keys]) rfl
          simp [BlkIn, nth, blkOf, vaddr] at hin
          all_goals
            omega
      · rcases hfr with ⟨e, _⟩ | ⟨b', e, hle, _⟩
        · rw [e] at hg; cases hg; exact hb
        · rw [e] at hg; cases hg; exact Nat.le_trans h1.base.size hle

/-- slices.Delete(s, i, i + 1) -/
theorem c52 (g n cp : Nat) (L : List Cmd) (i : Nat) (w : World) (hs : Mine cmdE 82 w (.slice (some ⟨g, 0, none⟩) n cp) L) (hi : i < L.length) (hm : L.length ≤ 60000000000) :
    Runs Try.prog 52 [.slice (some ⟨g, 0, none⟩) n cp, .int .i64 i, .int .i64 ((i : Int) + 1)] w (fun b => b = g) (fun v w' => Mine cmdE 82 w' v (L.eraseIdx i) ∧ v.ownBlock = some g) := by
  obtain ⟨a', c', e⟩ := hs.slice
  have hn : n = L.length := by cases e; rfl
  have hcap : L.length ≤ cp := hs.cap
  have base : ∀ {w1 : World}, Kept (fun b => b = g) w w1 → Kept (fun b => False) w w1 → Mine cmdE 82 w1 (.slice (some ⟨g, 0, none⟩) n cp) L := fun _ h => hs.same h
  refine runs mix t52 rfl rfl (ε := [.slice (some ⟨g, 0, none⟩) n cp, .int .i64 i, .int .i64 ((i : Int) + 1)]) ⟨⟨_, _, _, rfl⟩, ⟨_, rfl⟩, ⟨_, rfl⟩, trivial⟩ trivial (by simp [keys]) (by simp [keys]) (by simp [keys]) ?_
  have e1 : ((i : Int) + 1) = ((i + 1 : Nat) : Int) := by simp
  refine den_start0 fun w1 h1 => den_slice (some ⟨g, 0, none⟩) n cp (some i) (some ((i + 1 : Nat) : Int)) (some (n : Int)) i (i + 1) n 4 underlying38 size82 (fun ρ h => h.1) (fun ρ h => congrArg some h.2.1) (fun ρ h => congrArg some (h.2.2.1.trans (by simp only [SV.den, IE.den, nth, vint]; rw [e1]))) (fun ρ h => congrArg some h.2.2.2.1) (.inr ⟨rfl, by omega⟩) (.inr ⟨rfl, by omega⟩) (.inr ⟨rfl, by omega⟩) (fun _ => rfl) ?_
  refine den_norm (by simp only [List.cons_append, List.nil_append]; rfl) (den_splitEq (fun h => ?_) (fun _ w2 h2 => ⟨fun b => b = g, fun b hb => by simp [BlkIn] at hb, ?_⟩))
  · simp only [IE.den, nth, vint] at h; omega
  have k1 : Same w1 w2 := h2.kept.mono fun b _ hb => by simp [BlkIn] at hb
  have k0 : Same w w1 := h1.kept.mono fun b _ hb => by simp [BlkIn, keys] at hb
  refine den_slice (some ⟨g, 0, none⟩) n cp none (some i) none 0 i cp 4 underlying38 size82 (fun ρ h => h.1) (fun _ _ => rfl) (fun ρ h => congrArg some h.2.1) (fun _ _ => rfl) (.inl ⟨rfl, rfl⟩) (.inr ⟨rfl, by omega⟩) (.inl ⟨rfl, rfl⟩) (fun _ => rfl) ?_
  refine den_norm (by simp only [List.cons_append, List.nil_append]; rfl) ?_
  refine den_slice (some ⟨g, 0, none⟩) n cp (some ((i + 1 : Nat) : Int)) none none (i + 1) n cp 4 underlying38 size82 (fun ρ h => h.1) (fun ρ h => congrArg some (h.2.1.trans (by simp only [SV.den, IE.den, nth, vint]; rw [e1]))) (fun _ _ => rfl) (fun _ _ => rfl) (.inl ⟨rfl, rfl⟩) (.inl ⟨rfl, rfl, rfl⟩) (.inr ⟨rfl, by omega⟩) (fun _ => rfl) ?_
  refine den_norm (by simp only [List.cons_append, List.nil_append]; rfl) ?_
  refine den_appendL (E := cmdE) (T := 82) rfl underlying38 info82 zero82 (by kernel_rfl) (by kernel_rfl) (by decide) bytes82 one4 (.slice (some ⟨g, 0, none⟩) i cp) (sliced (some ⟨g, 0, none⟩) (i + 1) n cp 4) (L.take i) (L.drop (i + 1)) (by simp only [SV.den, nth]; exact sliced0 _ _ _ _) rfl (fun n c e => by simp only [sliced, Option.map_some] at e; split at e <;> cases e) (by simp; omega) (fun b hb _ => by cases hb; exact .inr rfl) (by simp) ?_ (fun b _ _ hb => by simp [BlkIn] at hb) (fun _ b hb _ => by cases hb; rfl) (fun _ => rfl) ?_
  · intro w3 h3
    have k3 : Same w2 w3 := h3.kept.mono fun b _ hb => by simp [BlkIn] at hb
    have hM := ((hs.same k0).same k1).same k3
    refine ⟨hM.take (by omega), ?_⟩
    have := hM.arr.sub (l := i + 1) (k := n) (m := cp) (by omega) (Nat.le_refl _) (by omega)
    rw [List.take_of_length_le (by omega)] at this
    exact this
  · intro w3 s' w4 h3 ho hk hfr hap
    rcases hfr with ⟨eb, ec⟩ | ⟨b', _, _, hlt⟩
    · have hlen : (L.take i ++ L.drop (i + 1)).length = n - 1 := by simp; omega
      obtain ⟨c4, rfl⟩ : ∃ c4, s' = .slice (some ⟨g, 0, none⟩) (n - 1) c4 := by
        rcases ho.forms with ⟨rfl, _⟩ | ⟨g', c, cur, ty, rfl, _⟩
        · cases eb
        · cases eb; exact ⟨c, by rw [hlen]⟩
      simp only [vcap] at ec
      subst ec
      have he : L.take i ++ L.drop (i + 1) = L.eraseIdx i := (List.eraseIdx_eq_take_drop_succ L i).symm
      rw [he] at ho
      refine den_norm (by simp only [List.cons_append, List.nil_append]; rfl) (den_start0 fun w5 h5 => ?_)
      have k5 : Same w4 w5 := h5.kept.mono fun b _ hb => by simp [BlkIn] at hb
      have hn1 : ((n - 1 : Nat) : Int) = vint (.int .i64 (n - 1 : Nat)) := rfl
      refine den_slice (some ⟨g, 0, none⟩) (n - 1) c4 (some ((n - 1 : Nat) : Int)) (some (n : Int)) none (n - 1) n c4 4 underlying38 size82 (fun ρ h => h.1) (fun ρ h => congrArg some h.2.1) (fun ρ h => congrArg some h.2.2.1) (fun _ _ => rfl) (.inl ⟨rfl, rfl⟩) (.inr ⟨rfl, by omega⟩) (.inr ⟨rfl, by omega⟩) (fun _ => rfl) ?_
      refine den_norm (by simp only [List.cons_append, List.nil_append]; rfl) ?_
      refine den_clear (E := cmdE) (T := 82) rfl underlying38 zeroT82 (by kernel_rfl) onez g (n - 1) c4 n (L.eraseIdx i) rfl (by omega) (by omega) (fun w6 h6 => ?_) ⟨fun hd => (by cases hd), fun _ => rfl, by simp [BlkIn]⟩ (fun w6 w7 h6 ho7 hk7 => den_leafA _ rfl fun w8 h8 => ⟨?_, rfl⟩)
      · have k6 : Same w5 w6 := h6.kept.mono fun b _ hb => by simp [BlkIn] at hb
        exact (ho.same k5).same k6
      · have k8 : Same w7 w8 := h8.kept.mono fun b _ hb => by simp [BlkIn] at hb
        exact ho7.same k8
    · simp only [vcap, List.length_take, List.length_drop] at hlt
      omega
end Go.Proofs.Ytfjimghpjopgoaa
