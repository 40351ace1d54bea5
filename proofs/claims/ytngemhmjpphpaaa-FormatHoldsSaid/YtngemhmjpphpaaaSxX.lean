/- Part X of a symbolic run of Go code by computation: its states, conditions and the proof that a condition that holds says what the function returns. No conditions of its own. -/
import Derived.Test.YtngemhmjpphpaaaSxW
set_option linter.unusedVariables false
set_option linter.unusedSimpArgs false
namespace Go.Sx
open Go.RowKit

/-- the slice holds these elements in a block of its own -/
def Mine {α : Type} (E : Enc α) (T : TypeId) (w : World) (s : Value) (L : List α) : Prop :=
  w.ownsRow 0 T E.sz s L.length (L.flatMap E.enc) ∨ (L = [] ∧ ∃ g cur ty, s = .slice (some ⟨g, 0, none⟩) 0 0 ∧ w.heap[g]? = some (.cells cur ty (0, 0)))

theorem Mine.nil {α : Type} {E : Enc α} {T : TypeId} {w : World} : Mine E T w (.slice none 0 0) ([] : List α) := .inl ⟨by simp, .inl ⟨rfl, rfl⟩⟩
theorem Mine.forms {α : Type} {E : Enc α} {T : TypeId} {w : World} {s : Value} {L : List α} (h : Mine E T w s L) : (s = .slice none 0 0 ∧ L = []) ∨ ∃ g c cur ty, s = .slice (some ⟨g, 0, none⟩) L.length c ∧ w.heap[g]? = some (.cells cur ty (0, 0)) ∧ ∀ (j : Nat) u, (L.flatMap E.enc)[j]? = some u → (cur : Array Value)[j]? = some u := by
  rcases h with ⟨hl, ⟨rfl, hn⟩ | ⟨g, cap, cur, rfl, _, hh, _, _, hcs, ht⟩⟩ | ⟨rfl, g, cur, ty, rfl, hh⟩
  · exact .inl ⟨rfl, List.eq_nil_of_length_eq_zero hn⟩
  · refine .inr ⟨g, cap, cur, T, rfl, hh, fun j u hu => ?_⟩
    rw [← ht, List.getElem?_take] at hu
    split at hu
    · rw [Array.getElem?_toList] at hu; exact hu
    · cases hu
  · exact .inr ⟨g, 0, cur, ty, rfl, hh, fun j u hu => by simp at hu⟩
theorem Mine.slice {α : Type} {E : Enc α} {T : TypeId} {w : World} {s : Value} {L : List α} (h : Mine E T w s L) : ∃ a c, s = .slice a L.length c := by
  rcases h.forms with ⟨rfl, rfl⟩ | ⟨g, c, cur, ty, rfl, _⟩
  · exact ⟨none, 0, rfl⟩
  · exact ⟨_, _, rfl⟩
theorem Mine.arr {α : Type} {E : Enc α} {T : TypeId} {w : World} {s : Value} {L : List α} (h : Mine E T w s L) : Arr E w s L := by
  refine ⟨h.slice, flatMap_length E L, fun j x hx => ?_⟩
  rcases h.forms with ⟨rfl, rfl⟩ | ⟨g, c, cur, ty, rfl, hh, hc⟩
  · simp at hx
  · refine ⟨_, rfl, ?_⟩
    rw [addr_add, Nat.zero_add]
    simp [World.cell?, hh, hc j x hx]
theorem Mine.cap {α : Type} {E : Enc α} {T : TypeId} {w : World} {s : Value} {L : List α} (h : Mine E T w s L) : L.length ≤ vcap s := by
  rcases h with ⟨hl, ⟨rfl, hn⟩ | ⟨g, cap, cur, rfl, _, hh, hc, _⟩⟩ | ⟨rfl, g, cur, ty, rfl, hh⟩
  · rw [hn]; exact Nat.zero_le _
  · exact hc
  · exact Nat.zero_le _
theorem Mine.lt {α : Type} {E : Enc α} {T : TypeId} {w : World} {s : Value} {L : List α} (h : Mine E T w s L) {g : Nat} (hg : s.ownBlock = some g) : g < w.heap.size := by
  rcases h.forms with ⟨rfl, rfl⟩ | ⟨g', c, cur, ty, rfl, hh, _⟩
  · cases hg
  · cases hg; exact (Array.getElem?_eq_some_iff.1 hh).1
theorem ownBlock_addr {s : Value} {ad : Addr} (h : vaddr s = some ad) (hs : ∃ a n c, s = .slice a n c) : s.ownBlock = some ad.block := by
  obtain ⟨a, n, c, rfl⟩ := hs
  simp only [vaddr] at h
  subst h
  rfl
theorem Mine.kept {α : Type} {E : Enc α} {T : TypeId} {w w' : World} {s : Value} {L : List α} {M : Nat → Prop} (h : Mine E T w s L) (hk : Kept M w w') (hM : ∀ g, s.ownBlock = some g → ¬ M g) : Mine E T w' s L := by
  rcases h with h | ⟨rfl, g, cur, ty, rfl, hh⟩
  · exact .inl (Kept.owns hk h hM)
  · exact .inr ⟨rfl, g, cur, ty, rfl, (hk.block g (Array.getElem?_eq_some_iff.1 hh).1 (hM g rfl)).trans hh⟩
theorem Mine.same {α : Type} {E : Enc α} {T : TypeId} {w w' : World} {s : Value} {L : List α} (h : Mine E T w s L) (hk : Same w w') : Mine E T w' s L := h.kept hk fun _ _ h => h
theorem Mine.notRec {α : Type} {E : Enc α} {T : TypeId} {w : World} {s : Value} {L : List α} (h : Mine E T w s L) {g : Nat} (hg : s.ownBlock = some g) : ¬ IsRec w g := by
  rintro ⟨o, ho, hi⟩
  rcases h.forms with ⟨rfl, rfl⟩ | ⟨g', c, cur, ty, rfl, hh, _⟩
  · cases hg
  · cases hg
    rw [hh] at ho
    cases ho
    cases hi
theorem Mine.quiet {α : Type} {E : Enc α} {T : TypeId} {w w' : World} {s : Value} {L : List α} (h : Mine E T w s L) (hk : Quiet w w') : Mine E T w' s L := h.kept hk fun _ hg => h.notRec hg

/-- append of a list of elements to a slice of one's own -/
theorem run_appendL {P : Program} {α : Type} {E : Enc α} {t₀ ty T : TypeId} {i : TypeInfo} {z : Value} (ht : P.underlying t₀ = some (.slice T)) (hi : P.info? T = some i) (hz : i.zero = some z) (hsize : i.size = E.sz) (hzs : z.cells.size = E.sz) (hsz : 0 < E.sz) (hbs : i.bytes ≤ 1000)
    (h1 : ∀ x, ∀ u ∈ E.enc x, u.oneCell' = true) (w : World) (s : Value) (L : List α) (src : Value) (M : List α) (ho : Mine E T w s L) (hs : Arr E w src M) (hb : L.length + M.length ≤ 65000000000) (hsn : ∀ n c, src = .slice none n c → n = 0 ∧ c = 0) :
    ∃ v' w', (Builtin.append_ #[t₀, t₀] ty #[s, src]).run P w = .ok v' w' ∧ Mine E T w' v' (L ++ M) ∧ Kept (fun b => s.ownBlock = some b ∧ 0 < vcap s) w w' ∧ ((v'.ownBlock = s.ownBlock ∧ vcap v' = vcap s) ∨ ∃ b, v'.ownBlock = some b ∧ w.heap.size ≤ b ∧ vcap s < L.length + M.length) := by
  have hbytes : (L.length + M.length) * i.bytes ≤ 140737488355328 := by have := Nat.mul_le_mul_left (L.length + M.length) hbs; omega
  have h63 : L.length + M.length ≤ maxLen := by simp only [maxLen]; omega
  obtain ⟨a, c, rfl⟩ := hs.slice
  cases a with
  | none =>
    obtain ⟨hm, rfl⟩ := hsn _ _ rfl
    obtain rfl : M = [] := List.eq_nil_of_length_eq_zero hm
    refine ⟨s, w, ?_, by simpa using ho, Kept.refl _ _, .inl ⟨rfl, rfl⟩⟩
    rcases ho with ho | ⟨rfl, g, cur, ty', rfl, hh⟩
    · exact run_append_owned_none w 0 t₀ ty T i E.sz ht hi s _ _ ho
    · simp [Builtin.append_, run_underlying ht, sizeOf, typeInfo, hi, Builtin.lenOf, Builtin.firstCells, storeCells]
  | some a =>
    have hnews : ∀ (j : Nat) u, (M.flatMap E.enc)[j]? = some u → w.cell? (a.add j) = some u := fun j u hu => by
      obtain ⟨ad, had, hc⟩ := Reads.cell hs j u hu
      cases had
      exact hc
    have hlen : (M.flatMap E.enc).length = M.length * E.sz := flatMap_length E M
    have hone : ∀ u ∈ M.flatMap E.enc, u.oneCell' = true := fun u hu => by
      obtain ⟨x, _, hx⟩ := List.mem_flatMap.1 hu
      exact h1 x u hx
    have toOwn : ∀ {w' v'}, w'.ownsRow 0 T E.sz v' (L.length + M.length) (L.flatMap E.enc ++ M.flatMap E.enc) → Mine E T w' v' (L ++ M) := fun h => .inl (by simpa using h)
    have ho2 : (w.ownsRow 0 T E.sz s L.length (L.flatMap E.enc) ∧ ((s = .slice none 0 0) ∨ 0 < vcap s)) ∨ (L = [] ∧ ∃ g cur ty, s = .slice (some ⟨g, 0, none⟩) 0 0 ∧ w.heap[g]? = some (.cells cur ty (0, 0))) := by
      rcases ho with ho | ho
      · rcases ho.2 with ⟨hs', _⟩ | ⟨g, cap, cur, rfl, _, hh, hnc, _⟩
        · exact .inl ⟨ho, .inl hs'⟩
        · by_cases hc : cap = 0
          · subst hc
            obtain rfl : L = [] := List.eq_nil_of_length_eq_zero (by omega)
            exact .inr ⟨rfl, g, cur, T, rfl, hh⟩
          · exact .inl ⟨ho, .inr (by simp only [vcap]; omega)⟩
      · exact .inr ho
    rcases ho2 with ⟨ho, hcap⟩ | ⟨rfl, g, cur, ty', rfl, hh⟩
    · obtain ⟨v', w', hr, ho', hg, _⟩ := run_append_own (P := P) w 0 t₀ ty T i z E.sz i.bytes ht hi hz hsize rfl hzs hsz s L.length _ ho a M.length c _ hlen hnews hone h63 hbytes (Nat.zero_le _)
      refine ⟨v', w', hr, toOwn ho', Kept.of_grownBy hg |>.mono fun b _ h => ⟨h, by rcases hcap with rfl | hcap; cases h; exact hcap⟩, ?_⟩
      rcases ho.2 with ⟨rfl, hL⟩ | ⟨g, cap, cur, rfl, hbg, hgg, hnc, hcm, hcs, htake⟩
      · have hL0 : L = [] := List.eq_nil_of_length_eq_zero hL
        subst hL0
        obtain ⟨v2, w2, hr2, ho2, _, _⟩ := run_append_own (P := P) w w.heap.size t₀ ty T i z E.sz i.bytes ht hi hz hsize rfl hzs hsz (.slice none 0 0) 0 [] (World.ownsRow_nil w _ T E.sz) a M.length c _ hlen hnews hone (by simpa using h63) (by simpa using hbytes) (Nat.le_refl _)
        rw [hr] at hr2
        cases hr2
        rcases ho2.2 with ⟨rfl, _⟩ | ⟨g', _, _, rfl, hge, _⟩
        · exact .inl ⟨rfl, rfl⟩
        · refine .inr ⟨g', rfl, hge, ?_⟩
          rcases Nat.eq_zero_or_pos M.length with h0 | h0
          · have hM0 : M = [] := List.eq_nil_of_length_eq_zero h0
            subst hM0
            have hf := run_firstCells_some (P := P) w i.size 0 a 0 c [] (by simp) (fun j u hu => by simp at hu)
            have hr9 : (Builtin.append_ #[t₀, t₀] ty #[.slice none 0 0, .slice (some a) ([] : List α).length c]).run P w = .ok (.slice none 0 0) w := by
              simp [Builtin.append_, run_underlying ht, sizeOf, typeInfo, hi, Builtin.lenOf, hf, storeCells]
            rw [hr] at hr9
            cases hr9
          · simp only [vcap, List.length_nil]; omega
      · by_cases hroom : L.length + M.length ≤ cap
        · obtain ⟨w2, hr2, _, _⟩ := run_append_fits (P := P) w 0 t₀ ty T i E.sz ht hi hsize g L.length cap _ ho a M.length c _ hlen hnews hone hroom
          rw [hr] at hr2
          cases hr2
          exact .inl ⟨rfl, rfl⟩
        · have hr2 := run_append_grow (P := P) w t₀ ty T i z ht hi hz ⟨g, 0, none⟩ L.length cap (L.flatMap E.enc) (by rw [hsize]; exact flatMap_length E L) (ho.cells (g := g) rfl) a M.length c _ (by rw [hsize]; exact hlen) hnews (by omega) (by simp only [maxLen] at h63; omega) (growslice_fits (by omega) hbytes)
          rw [hr] at hr2
          cases hr2
          exact .inr ⟨_, rfl, Nat.le_refl _, by simp only [vcap]; omega⟩
    · by_cases hM : M = []
      · subst hM
        refine ⟨_, w, ?_, .inr ⟨rfl, g, cur, ty', rfl, hh⟩, Kept.refl _ _, .inl ⟨rfl, rfl⟩⟩
        have hf := run_firstCells_some (P := P) w i.size 0 a 0 c [] (by simp) (fun j u hu => by simp at hu)
        simp [Builtin.append_, run_underlying ht, sizeOf, typeInfo, hi, Builtin.lenOf, hf, storeCells]
      · have hMp : 0 < M.length := List.length_pos_iff.2 hM
        have hr := run_append_grow (P := P) w t₀ ty T i z ht hi hz ⟨g, 0, none⟩ 0 0 [] (by simp) (fun j u hu => by simp at hu) a M.length c _ (by rw [hsize]; exact hlen) hnews (by omega) (by simp only [maxLen, List.length_nil] at h63; omega) (growslice_fits (by omega) (by simpa using hbytes))
        simp only [Nat.zero_add] at hr
        refine ⟨_, _, hr, ?_, (Kept.refl _ w).drew.alloc _, .inr ⟨_, rfl, Nat.le_refl _, by simp only [vcap, List.length_nil]; omega⟩⟩
        obtain ⟨v2, w2, hr2, ho2, _, _⟩ := run_append_own (P := P) w w.heap.size t₀ ty T i z E.sz i.bytes ht hi hz hsize rfl hzs hsz (.slice none 0 0) 0 [] (World.ownsRow_nil w _ T E.sz) a M.length c _ hlen hnews hone (by simpa using h63) (by simpa using hbytes) (Nat.le_refl _)
        have hr3 := run_append_nil (P := P) w t₀ ty T i z ht hi hz a M.length c _ (by rw [hsize]; exact hlen) hnews hMp (by simp only [maxLen, List.length_nil] at h63; omega) (by have := hbytes; simp at this; omega)
        rw [hr3] at hr2
        simp only [Result.ok.injEq] at hr2
        obtain ⟨rfl, rfl⟩ := hr2
        refine .inl ?_
        obtain ⟨e1, e2⟩ := ho2
        refine ⟨by simpa using e1, ?_⟩
        rcases e2 with ⟨e, _⟩ | ⟨g', cap', cur', e, hge, hh', hn, hc, hcs, htk⟩
        · cases e
        · simp only [Value.slice.injEq, Option.some.injEq, Addr.mk.injEq] at e
          obtain ⟨⟨rfl, _⟩, hn', rfl⟩ := e
          refine .inr ⟨_, _, cur', rfl, Nat.zero_le _, ?_, by simpa using hn, hc, hcs, by simpa using htk⟩
          simpa using hh'

/-- no block of these variables is the slice's own -/
def Apart (ε : List Value) (un : List Nat) (s : Value) : Prop := ∀ g, s.ownBlock = some g → 0 < vcap s → ¬ BlkIn ε un g

section
variable {G : Ctx} {Λ : Nat → List Value → World → Prop} {ε : List Value} {wx ws : World} {X : Nat → Prop} {k k' : VC}

theorem Shown.lt {t : List Nat} {fs : Facts} {w : World} (h : Shown G ε t fs wx w) {i b : Nat} (hi : i ∈ keys fs) (hb : blkOf (nth ε i) = some b) : b < w.heap.size := by
  obtain ⟨b', hb', hlt⟩ := facts_lt h.facts i hi
  rw [hb] at hb'
  cases hb'
  exact hlt
theorem Apart.fresh {w : World} {t un : List Nat} {fs : Facts} {s : Value} (h : Shown G ε t fs wx w) (hun : ∀ i ∈ un, i ∈ keys fs) (hs : ∀ g, s.ownBlock = some g → w.heap.size ≤ g) : Apart ε un s := by
  rintro g hg _ ⟨i, hi, hb⟩
  have := h.lt (hun i hi) hb
  have := hs g hg
  omega

/-- append of a slice of elements to a slice of one's own -/
theorem den_appendL {α : Type} {E : Enc α} {t₀ type T : TypeId} {i : TypeInfo} {z : Value} {x y : Operand} {sx sy : SV} {drawn : Bool} {j : Nat} {t t' un : List Nat} {fs : Facts} {cl : Call}
    (hcl : cl = { callee := .builtin .append, args := #[x, y], argTypes := #[t₀, t₀] })
    (ht : G.P.underlying t₀ = some (.slice T)) (hi : G.P.info? T = some i) (hz : i.zero = some z) (hsize : i.size = E.sz) (hzs : z.cells.size = E.sz) (hsz : 0 < E.sz) (hbs : i.bytes ≤ 1000) (h1 : ∀ x, ∀ u ∈ E.enc x, u.oneCell' = true)
    (s src : Value) (L M : List α) (hx : sx.den ε = s) (hy : sy.den ε = src) (hsn : ∀ n c, src = .slice none n c → n = 0 ∧ c = 0)
    (hb : L.length + M.length ≤ 65000000000) (hM : ∀ g, s.ownBlock = some g → 0 < vcap s → G.W0.heap.size ≤ g ∨ G.M g) (hun : ∀ i ∈ un, i ∈ keys fs)
    (hown : ∀ w, Shown G ε t fs wx w → Mine E T w s L ∧ Arr E w src M) (hap : Apart ε un s) (hX : drawn = true → ∀ g, s.ownBlock = some g → 0 < vcap s → X g)
    (hj : ∀ v, nth (ε ++ [v]) j = v)
    (hk : ∀ w s' w', Shown G ε t fs wx w → Mine E T w' s' (L ++ M) → Kept (fun b => s.ownBlock = some b ∧ 0 < vcap s) w w' → ((s'.ownBlock = s.ownBlock ∧ vcap s' = vcap s) ∨ ∃ b, s'.ownBlock = some b ∧ w.heap.size ≤ b ∧ vcap s < L.length + M.length) → Apart ε un s' →
      k.den G Λ (ε ++ [s']) w' (if drawn then ws else w') (if drawn then X else BlkIn ε t')) :
    (VC.gen (.call cl) type [(x, sx), (y, sy)] [Base.slice] (.var j) [] drawn t t' un fs k).den G Λ ε wx ws X := by
  subst hcl
  refine den_genF (fun b => s.ownBlock = some b ∧ 0 < vcap s) (fun w l w' => ∃ v', l = [v'] ∧ Mine E T w' v' (L ++ M) ∧ Kept (fun b => s.ownBlock = some b ∧ 0 < vcap s) w w' ∧ ((v'.ownBlock = s.ownBlock ∧ vcap v' = vcap s) ∨ ∃ b, v'.ownBlock = some b ∧ w.heap.size ≤ b ∧ vcap s < L.length + M.length)) ?_ ?_ ?_
  · rintro w hw g ⟨hg, hcp⟩ hlt
    exact ⟨fun hd => hX hd g hg hcp, fun hl => (hM g hg hcp).resolve_left (by omega), hap g hg hcp, fun _ => (hown w hw).1.notRec hg⟩
  · intro w hw ρ hρ
    have e1 : ρ x = s := by have := hρ (x, sx.den ε) (by simp); rw [this, hx]
    have e2 : ρ y = src := by have := hρ (y, sy.den ε) (by simp); rw [this, hy]
    obtain ⟨v', w', hr, ho', hg, hb'⟩ := run_appendL (P := G.P) (ty := type) ht hi hz hsize hzs hsz hbs h1 w s L src M (hown w hw).1 (hown w hw).2 hb hsn
    obtain ⟨a, c, hsl⟩ := ho'.slice
    refine .inl ⟨v', w', .inl ?_, ⟨[v'], ⟨⟨_, _, _, hsl⟩, trivial⟩, ?_, v', rfl, ho', hg, hb'⟩, hg⟩
    · simp [execOp, bare, resolve, invoke, builtin, e1, e2, hr]
    · simp only [SV.den]; exact (hj _).symm
  · rintro w l w' hw hl' ⟨v', rfl, h2, h3, h4⟩ hs
    refine hk w v' w' hw h2 h3 h4 ?_
    rcases h4 with ⟨hb, hcp⟩ | ⟨b', hb', hle, _⟩
    · intro g hg' hc'; rw [hb] at hg'; rw [hcp] at hc'; exact hap g hg' hc'
    · exact Apart.fresh hw hun fun g hg' => by rw [hb'] at hg'; cases hg'; exact hle
/-- append(s, x): one element more in a slice of one's own -/
theorem den_push {α : Type} {E : Enc α} {t₀ type T : TypeId} {i : TypeInfo} {z : Value} {x y : Operand} {sx : SV} {kb : Nat} {cs : List SV} {drawn : Bool} {j : Nat} {t t' un : List Nat} {fs : Facts} {cl : Call}
    (hcl : cl = { callee := .builtin .append, args := #[x, y], argTypes := #[t₀, t₀] })
    (ht : G.P.underlying t₀ = some (.slice T)) (hi : G.P.info? T = some i) (hz : i.zero = some z) (hsize : i.size = E.sz) (hzs : z.cells.size = E.sz) (hsz : 0 < E.sz) (hbs : i.bytes ≤ 1000) (h1 : ∀ x, ∀ u ∈ E.enc x, u.oneCell' = true)
    (s : Value) (L : List α) (a : α) (hx : sx.den ε = s) (hf : findH fs kb = some cs) (hcs : denL ε cs = E.enc a)
    (hb : L.length + 1 ≤ 65000000000) (hM : ∀ g, s.ownBlock = some g → 0 < vcap s → G.W0.heap.size ≤ g ∨ G.M g) (hun : ∀ i ∈ un, i ∈ keys fs)
    (hown : ∀ w, Shown G ε t fs wx w → Mine E T w s L) (hap : Apart ε un s) (hX : drawn = true → ∀ g, s.ownBlock = some g → 0 < vcap s → X g)
    (hj : ∀ v, nth (ε ++ [v]) j = v)
    (hk : ∀ w s' w', Shown G ε t fs wx w → Mine E T w' s' (L ++ [a]) → Kept (fun b => s.ownBlock = some b ∧ 0 < vcap s) w w' → ((s'.ownBlock = s.ownBlock ∧ vcap s' = vcap s) ∨ ∃ b, s'.ownBlock = some b ∧ w.heap.size ≤ b ∧ vcap s < L.length + 1) → Apart ε un s' →
      k.den G Λ (ε ++ [s']) w' (if drawn then ws else w') (if drawn then X else BlkIn ε t')) :
    (VC.gen (.call cl) type [(x, sx), (y, SV.slc kb 0 1 1)] [Base.slice] (.var j) [] drawn t t' un fs k).den G Λ ε wx ws X := by
  intro w0 hw0
  obtain ⟨b, ty, hb', hh⟩ := findH_facts hw0.facts hf
  refine den_appendL (G := G) (Λ := Λ) (ε := ε) (wx := wx) (ws := ws) (X := X) hcl ht hi hz hsize hzs hsz hbs h1 s (.slice (some ⟨b, 0, none⟩) 1 1) L [a] hx (by simp only [SV.den, hb', vaddr, addO, Option.map_some, addr_add, Nat.zero_add]) (fun n c e => by cases e) hb hM hun ?_ hap hX hj hk w0 hw0
  intro w hw
  refine ⟨hown w hw, ?_⟩
  have hr := (findH_facts hw.facts hf).reads 0 1 1 E.sz (by rw [hcs, E.len]; omega)
  rw [hcs, hb'] at hr
  simp only [vaddr, addO, Option.map_some, addr_add, Nat.zero_add, List.drop_zero, Nat.one_mul] at hr
  rw [List.take_of_length_le (by rw [E.len]; exact Nat.le_refl _)] at hr
  show Reads w _ E.sz 1 _
  simpa using hr
end

/-- the pointer's block holds these cells (and no more is said of it) -/
structure PtsTo (w : World) (p : Value) (l : List Value) : Prop where
  at_ : ∃ b, p = .pointer (some ⟨b, 0, none⟩) ∧ ∀ (m : Nat) v, l[m]? = some v → w.cell? ⟨b, m, none⟩ = some v
theorem HasBlk.pts {w : World} {p : Value} {l : List Value} (h : HasBlk w p l) : PtsTo w p l := by
  obtain ⟨b, hb, hc⟩ := hasBlk_cell h
  exact ⟨b, hb, fun m v hv => by rw [hc]; exact hv⟩
theorem PtsTo.kept {w w' : World} {p : Value} {l : List Value} {M : Nat → Prop} (h : PtsTo w p l) (hk : Kept M w w') (hM : ∀ b, blkOf p = some b → ¬ M b) : PtsTo w' p l := by
  obtain ⟨b, rfl, hc⟩ := h.at_
  exact ⟨b, rfl, fun m v hv => hk.cell (hc m v hv) (hM b rfl)⟩
theorem PtsTo.same {w w' : World} {p : Value} {l : List Value} (h : PtsTo w p l) (hk : Same w w') : PtsTo w' p l := h.kept hk fun _ _ h => h
theorem PtsTo.den0 {w : World} {ε : List Value} {i : Nat} {p : Value} {l : List Value} (h : PtsTo w p l) (hp : nth ε i = p) : (SV.ptr i 0).den ε = p := by
  obtain ⟨b, rfl, _⟩ := h.at_
  simp [SV.den, hp, vaddr, addO, addr_add]

section
variable {G : Ctx} {Λ : Nat → List Value → World → Prop} {ε : List Value} {wx ws : World} {X : Nat → Prop} {k k' : VC}
/-- a read of what an untracked pointer points to -/
theorem den_ldp {i off : Nat} {bs : List Base} {t t' : List Nat} {fs : Facts} (l cells : List Value) (hl : Fits bs l) (hc : ∀ (m : Nat) v, l[m]? = some v → cells[off + m]? = some v)
    (hR : ∀ w, Shown G ε t fs wx w → PtsTo w (nth ε i) cells) (hX : ∀ b, blkOf (nth ε i) = some b → ¬ BlkIn ε t' b)
    (hk : ∀ w, Shown G ε t fs wx w → k.den G Λ (ε ++ l) w w (BlkIn ε t')) :
    (VC.start false t t' fs (VC.load (.ptr i off) bs k)).den G Λ ε wx ws X := by
  intro w hw
  obtain ⟨b, hb, hcell⟩ := (hR w hw).at_
  refine ⟨l, hl, ⟨⟨b, off, none⟩, ?_, hX b (by rw [hb]; rfl), fun m v hv => ?_⟩, hk w hw⟩
  · simp only [SV.den, hb, vaddr, addO, Option.map_some, addr_add, Nat.zero_add]
  · rw [addr_add]; exact hcell _ _ (hc m v hv)
theorem den_ldpD {i off : Nat} {bs : List Base} (l cells : List Value) (hl : Fits bs l) (hc : ∀ (m : Nat) v, l[m]? = some v → cells[off + m]? = some v)
    (hR : PtsTo ws (nth ε i) cells) (hX : ∀ b, blkOf (nth ε i) = some b → ¬ X b)
    (hk : k.den G Λ (ε ++ l) wx ws X) : (VC.load (.ptr i off) bs k).den G Λ ε wx ws X := by
  obtain ⟨b, hb, hcell⟩ := hR.at_
  refine ⟨l, hl, ⟨⟨b, off, none⟩, ?_, hX b (by rw [hb]; rfl), fun m v hv => ?_⟩, hk⟩
  · simp only [SV.den, hb, vaddr, addO, Option.map_some, addr_add, Nat.zero_add]
  · rw [addr_add]; exact hcell _ _ (hc m v hv)
theorem den_notnil {i : Nat} {w : World} {cells : List Value} (h : PtsTo w (nth ε i) cells) (hk : k.den G Λ ε wx ws X) : (VC.ob (.not (.nil i)) k).den G Λ ε wx ws X := by
  obtain ⟨b, hb, _⟩ := h.at_
  exact ⟨by simp [BE.den, hb, vnil], hk⟩
theorem den_call1 {f n : Nat} {bk : Base} {args : List SV} {drawn : Bool} {t t' un : List Nat} {fs : Facts} {r : Value} (hl : bk.fits r)
    (hc : ∀ w, Shown G ε t fs wx w → Gives G.P f (denL ε args) w r) (hn : (mkSV n bk).den (ε ++ [r]) = r)
    (hk : ∀ w w', Shown G ε t fs wx w → Same w w' → k.den G Λ (ε ++ [r]) w' (if drawn then ws else w') (if drawn then X else BlkIn ε t')) :
    (VC.call f args [bk] (mkSV n bk) [] drawn t t' un fs k).den G Λ ε wx ws X :=
  den_call [r] ⟨hl, trivial⟩ hn hc hk
end
end Go.Sx
