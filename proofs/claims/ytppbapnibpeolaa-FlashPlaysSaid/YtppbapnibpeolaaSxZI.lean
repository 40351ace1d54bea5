/- Part ZF of a symbolic run of Go code by computation: its states, conditions and the proof that a condition that holds says what the function returns. No conditions of its own. -/
import Derived.Test.YtppbapnibpeolaaSxZE
import Derived.Laws.BytesArg
import Derived.Laws.IdiomCopy
import Derived.MapKept
set_option linter.unusedVariables false
set_option linter.unusedSimpArgs false
namespace Go.Sx
open Go.RowKit

/-- the slice holds these elements in a block of its own, from some place of the block on -/
def Tail {α : Type} (E : Enc α) (T : TypeId) (w : World) (s : Value) (L : List α) : Prop :=
  (s = .slice none 0 0 ∧ L = []) ∨ ∃ g off c cur ty, s = .slice (some ⟨g, off, none⟩) L.length c ∧ w.heap[g]? = some (.cells cur ty (0, 0)) ∧ L.length ≤ c ∧ c ≤ maxLen ∧
    off + c * E.sz ≤ cur.size ∧ (0 < c → ty = T) ∧ (cur.toList.drop off).take (L.length * E.sz) = L.flatMap E.enc

theorem Mine.tail {α : Type} {E : Enc α} {T : TypeId} {w : World} {s : Value} {L : List α} (h : Mine E T w s L) : Tail E T w s L := by
  rcases h with ⟨hl, ⟨rfl, hn⟩ | ⟨g, cap, cur, rfl, _, hh, hc, hm, hcs, ht⟩⟩ | ⟨rfl, g, cur, ty, rfl, hh⟩
  · exact .inl ⟨rfl, List.eq_nil_of_length_eq_zero hn⟩
  · exact .inr ⟨g, 0, cap, cur, T, rfl, hh, hc, hm, by rw [hcs]; omega, fun _ => rfl, by simpa using ht⟩
  · exact .inr ⟨g, 0, 0, cur, ty, rfl, hh, Nat.le_refl _, by simp [maxLen], by simp, fun h => by omega, by simp⟩
theorem Tail.slice {α : Type} {E : Enc α} {T : TypeId} {w : World} {s : Value} {L : List α} (h : Tail E T w s L) : ∃ a c, s = .slice a L.length c := by
  rcases h with ⟨rfl, rfl⟩ | ⟨g, off, c, cur, ty, rfl, _⟩
  · exact ⟨none, 0, rfl⟩
  · exact ⟨_, _, rfl⟩
theorem Tail.cells {α : Type} {E : Enc α} {T : TypeId} {w : World} {g off n c : Nat} {L : List α} (h : Tail E T w (.slice (some ⟨g, off, none⟩) n c) L) : ∀ (j : Nat) x, (L.flatMap E.enc)[j]? = some x → w.cell? ⟨g, off + j, none⟩ = some x := by
  intro j x hx
  rcases h with ⟨e, _⟩ | ⟨g', off', c', cur, ty, e, hh, _, _, _, _, ht⟩
  · cases e
  · cases e
    rw [← ht, List.getElem?_take] at hx
    split at hx
    · rw [List.getElem?_drop, Array.getElem?_toList] at hx
      simp [World.cell?, hh, hx]
    · cases hx
theorem Tail.arr {α : Type} {E : Enc α} {T : TypeId} {w : World} {s : Value} {L : List α} (h : Tail E T w s L) : Arr E w s L := by
  refine ⟨h.slice, flatMap_length E L, fun j x hx => ?_⟩
  rcases h with ⟨rfl, rfl⟩ | ⟨g, off, c, cur, ty, rfl, hh, h1, h2, h3, h4, ht⟩
  · simp at hx
  · exact ⟨_, rfl, by rw [addr_add]; exact Tail.cells (.inr ⟨g, off, c, cur, ty, rfl, hh, h1, h2, h3, h4, ht⟩) j x hx⟩
theorem Tail.lt {α : Type} {E : Enc α} {T : TypeId} {w : World} {s : Value} {L : List α} (h : Tail E T w s L) {g : Nat} (hg : s.ownBlock = some g) : g < w.heap.size := by
  rcases h with ⟨rfl, rfl⟩ | ⟨g', off, c, cur, ty, rfl, hh, _⟩
  · cases hg
  · cases hg; exact (Array.getElem?_eq_some_iff.1 hh).1
theorem Tail.kept {α : Type} {E : Enc α} {T : TypeId} {w w' : World} {s : Value} {L : List α} {M : Nat → Prop} (h : Tail E T w s L) (hk : Kept M w w') (hM : ∀ g, s.ownBlock = some g → ¬ M g) : Tail E T w' s L := by
  rcases h with h | ⟨g, off, c, cur, ty, rfl, hh, rest⟩
  · exact .inl h
  · exact .inr ⟨g, off, c, cur, ty, rfl, (hk.block g (Array.getElem?_eq_some_iff.1 hh).1 (hM g rfl)).trans hh, rest⟩
theorem Tail.same {α : Type} {E : Enc α} {T : TypeId} {w w' : World} {s : Value} {L : List α} (h : Tail E T w s L) (hk : Same w w') : Tail E T w' s L := h.kept hk fun _ _ h => h
theorem Tail.notRec {α : Type} {E : Enc α} {T : TypeId} {w : World} {s : Value} {L : List α} (h : Tail E T w s L) {g : Nat} (hg : s.ownBlock = some g) : ¬ IsRec w g := by
  rintro ⟨o, ho, hi⟩
  rcases h with ⟨rfl, rfl⟩ | ⟨g', off, c, cur, ty, rfl, hh, _⟩
  · cases hg
  · cases hg
    rw [hh] at ho
    cases ho
    cases hi
theorem Tail.quiet {α : Type} {E : Enc α} {T : TypeId} {w w' : World} {s : Value} {L : List α} (h : Tail E T w s L) (hk : Quiet w w') : Tail E T w' s L := h.kept hk fun _ hg => h.notRec hg
theorem Tail.given {α : Type} {E : Enc α} {T : TypeId} {w : World} {s : Value} {L : List α} (h : Tail E T w s L) : Given E w s L := by
  refine ⟨h.arr, fun n c e => ?_, ?_, fun ad had => ?_⟩
  · rcases h with ⟨rfl, rfl⟩ | ⟨g, off, c', cur, ty, rfl, _⟩
    · cases e; exact ⟨rfl, rfl⟩
    · cases e
  · rcases h with ⟨rfl, rfl⟩ | ⟨g, off, c', cur, ty, rfl, _, hc, _⟩
    · exact Nat.zero_le _
    · exact hc
  · obtain ⟨a, c, e⟩ := h.slice
    exact h.lt (ownBlock_addr had ⟨a, _, c, e⟩)
/-- the slice without its first m elements -/
theorem Tail.drop {α : Type} {E : Enc α} {T : TypeId} {w : World} {a : Option Addr} {n c : Nat} {L : List α} (h : Tail E T w (.slice a n c) L) (m : Nat) (hm : m ≤ n) : Tail E T w (sliced a m n c E.sz) (L.drop m) ∧ ((sliced a m n c E.sz).ownBlock = (Value.slice a n c).ownBlock) := by
  rcases h with ⟨e, rfl⟩ | ⟨g, off, c', cur, ty, e, hh, hc, hcm, hcs, hty, ht⟩
  · cases e
    obtain rfl : m = 0 := by omega
    exact ⟨.inl ⟨by simp [sliced], by simp⟩, by simp [sliced]⟩
  · cases e
    have hcs' : off + (c - m) * E.sz ≤ cur.size ∧ m * E.sz + (c - m) * E.sz = c * E.sz := by
      have h1 : m * E.sz + (c - m) * E.sz = c * E.sz := by rw [← Nat.add_mul]; congr 1; omega
      exact ⟨by omega, h1⟩
    have hdl : (L.drop m).flatMap E.enc = (L.flatMap E.enc).drop (m * E.sz) := by
      have := flatMap_take E m L
      have h2 : L.flatMap E.enc = (L.take m).flatMap E.enc ++ (L.drop m).flatMap E.enc := by rw [← List.flatMap_append, List.take_append_drop]
      rw [h2, List.drop_left']
      rw [flatMap_length, List.length_take, Nat.min_eq_left hm]
    by_cases hmc : c = m
    · subst hmc
      have hL : L.length = c := by omega
      refine ⟨.inr ⟨g, off, 0, cur, ty, by simp [sliced, hL], hh, by simp [hL], by simp [maxLen], by omega, fun h => by omega, by rw [List.drop_of_length_le (by omega)]; simp⟩, by simp [sliced, Value.ownBlock]⟩
    · refine ⟨.inr ⟨g, off + m * E.sz, c - m, cur, ty, by simp [sliced, hmc, addr_add], hh, by simp; omega, by omega, by rw [Nat.add_assoc, hcs'.2]; exact hcs, fun h => hty (by omega), ?_⟩, by simp [sliced, hmc, addr_add, Value.ownBlock]⟩
      rw [hdl, ← ht, List.drop_take, List.drop_drop, List.length_drop, Nat.sub_mul]

/-- append of one element -/
theorem run_pushT {P : Program} {α : Type} {E : Enc α} {t₀ ty T : TypeId} {i : TypeInfo} {z : Value} (ht : P.underlying t₀ = some (.slice T)) (hi : P.info? T = some i) (hz : i.zero = some z) (hsize : i.size = E.sz) (hzs : z.cells.size = E.sz) (hsz : 0 < E.sz) (hbs : i.bytes ≤ 1000)
    (h1 : ∀ x, ∀ u ∈ E.enc x, u.oneCell' = true) (w : World) (s : Value) (L : List α) (a : Addr) (c0 : Nat) (x : α) (ho : Tail E T w s L) (hs : ∀ (j : Nat) u, (E.enc x)[j]? = some u → w.cell? (a.add j) = some u) (hb : L.length + 1 ≤ 65000000000) :
    ∃ v' w', (Builtin.append_ #[t₀, t₀] ty #[s, .slice (some a) 1 c0]).run P w = .ok v' w' ∧ Tail E T w' v' (L ++ [x]) ∧ Kept (fun b => s.ownBlock = some b) w w' ∧ (∀ g, v'.ownBlock = some g → s.ownBlock = some g ∨ w.heap.size ≤ g) := by
  have hbytes : (L.length + 1) * i.bytes ≤ 140737488355328 := by have := Nat.mul_le_mul_left (L.length + 1) hbs; omega
  have hlen : (E.enc x).length = 1 * i.size := by rw [E.len, hsize, Nat.one_mul]
  -- what growing leaves
  have grown : ∀ (old : Nat), old < L.length + 1 → ∀ ex : List Value, ex = L.flatMap E.enc → Tail E T (w.drew.alloc (.cells (ex.toArray ++ (E.enc x).toArray ++ Builtin.zeroCells z.cells (grownCap w (L.length + 1) old T - (L.length + 1))) T)) (.slice (some ⟨w.heap.size, 0, none⟩) (L.length + 1) (grownCap w (L.length + 1) old T)) (L ++ [x]) := by
    rintro old hold ex rfl
    have hge := grownCap_ge w (L.length + 1) old T
    have hcm : grownCap w (L.length + 1) old T ≤ maxLen := grownCap_le_maxLen w (L.length + 1) old T (by simp only [maxLen]; omega)
    have hfl : ((L ++ [x]).flatMap E.enc) = L.flatMap E.enc ++ E.enc x := by simp
    have e2 := flatMap_length E L
    refine .inr ⟨w.heap.size, 0, _, _, T, by rw [List.length_append]; rfl, heap_alloc_new w.drew _, by rw [List.length_append]; exact hge, hcm, ?_, fun _ => rfl, ?_⟩
    · simp only [Array.size_append, List.size_toArray, size_zeroCells, hzs, e2, E.len, Nat.zero_add]
      have e3 : grownCap w (L.length + 1) old T = (L.length + 1) + (grownCap w (L.length + 1) old T - (L.length + 1)) := by omega
      have e4 : grownCap w (L.length + 1) old T * E.sz = (L.length + 1) * E.sz + (grownCap w (L.length + 1) old T - (L.length + 1)) * E.sz := by rw [← Nat.add_mul, ← e3]
      have e5 : (L.length + 1) * E.sz = L.length * E.sz + E.sz := by rw [Nat.succ_mul]
      omega
    · rw [hfl]
      simp only [Array.toList_append, List.drop_zero]
      have e6 : (L ++ [x]).length * E.sz = (L.flatMap E.enc ++ E.enc x).length := by rw [List.length_append, List.length_append, e2, E.len, Nat.add_mul]; simp
      rw [e6]
      exact List.take_left
  rcases ho with ⟨rfl, rfl⟩ | ⟨g, off, c, cur, ty', rfl, hh, hc, hcm, hcs, hty, htk⟩
  · have hr := run_append_nil (P := P) w t₀ ty T i z ht hi hz a 1 c0 (E.enc x) hlen hs (by decide) (by omega) (by have := hbytes; simp at this; omega)
    exact ⟨_, _, hr, by simpa using grown 0 (by omega) [] rfl, (Kept.refl _ w).drew.alloc _, fun g hg => .inr (by cases hg; exact Nat.le_refl _)⟩
  · by_cases hroom : L.length + 1 ≤ c
    · have hf := run_firstCells_some (P := P) w i.size 1 a 1 c0 (E.enc x) hlen hs
      rw [hsize] at hf
      have hty' := hty (by omega)
      subst hty'
      have hfit : off + L.length * E.sz + (E.enc x).length ≤ cur.size := by
        have := Nat.mul_le_mul_right E.sz hroom
        rw [Nat.succ_mul] at this
        rw [E.len]
        omega
      have hst := run_storeCells_at P g (off + L.length * E.sz) ty' (E.enc x) 0 cur w hh (by simpa using hfit) (h1 x)
      simp only [Nat.add_zero] at hst
      have hadd : (⟨g, off, none⟩ : Addr).add (L.length * E.sz) = ⟨g, off + L.length * E.sz, none⟩ := addr_add _ _ _
      refine ⟨.slice (some ⟨g, off, none⟩) (L.length + 1) c, w.setRow g (cur.toList.take (off + L.length * E.sz) ++ E.enc x ++ cur.toList.drop (off + L.length * E.sz + (E.enc x).length)).toArray, ?_, ?_, ?_, fun g' hg' => .inl hg'⟩
      · simp [Builtin.append_, run_underlying ht, sizeOf, typeInfo, hi, Builtin.lenOf, hroom, hf, hsize, hadd, hst]
      · have hcl : cur.toList.length = cur.size := Array.length_toList
        refine .inr ⟨g, off, c, _, ty', by rw [List.length_append]; rfl, setRow_heap w g cur _ ty' (0, 0) hh, by rw [List.length_append]; exact hroom, hcm, ?_, fun _ => rfl, ?_⟩
        · simp only [List.size_toArray, List.length_append, List.length_take, List.length_drop, hcl]
          omega
        · have e2 := flatMap_length E L
          have hfl : ((L ++ [x]).flatMap E.enc) = L.flatMap E.enc ++ E.enc x := by simp
          rw [hfl]
          simp only [List.append_assoc]
          rw [List.drop_append_of_le_length (by rw [List.length_take, hcl]; omega)]
          have e7 : (cur.toList.take (off + L.length * E.sz)).drop off = L.flatMap E.enc := by
            rw [List.drop_take, Nat.add_sub_cancel_left]; exact htk
          rw [e7, ← List.append_assoc]
          have e6 : (L ++ [x]).length * E.sz = (L.flatMap E.enc ++ E.enc x).length := by rw [List.length_append, List.length_append, e2, E.len, Nat.add_mul]; simp
          rw [e6]
          exact List.take_left
      · exact ⟨rfl, rfl, rfl, by rw [setRow_size]; exact Nat.le_refl _, fun b hb hne => setRow_other _ _ _ _ fun e => hne (by rw [e]; rfl)⟩
    · have hcells : ∀ (j : Nat) v, (L.flatMap E.enc)[j]? = some v → w.cell? ((⟨g, off, none⟩ : Addr).add j) = some v := fun j v hv => by
        rw [addr_add]
        exact Tail.cells (T := T) (.inr ⟨g, off, c, cur, ty', rfl, hh, hc, hcm, hcs, hty, htk⟩) j v hv
      have hr := run_append_grow (P := P) w t₀ ty T i z ht hi hz ⟨g, off, none⟩ L.length c (L.flatMap E.enc) (by rw [hsize]; exact flatMap_length E L) hcells a 1 c0 (E.enc x) hlen hs (by omega) (by omega) (growslice_fits (by omega) hbytes)
      exact ⟨_, _, hr, grown c (by omega) _ rfl, (Kept.refl _ w).drew.alloc _, fun g' hg' => .inr (by cases hg'; exact Nat.le_refl _)⟩

section
variable {G : Ctx} {Λ : Nat → List Value → World → Prop} {ε : List Value} {wx ws : World} {X : Nat → Prop} {k k' : VC}
/-- append(s, x) to a slice of one's own that may begin inside its block -/
theorem den_pushT {α : Type} {E : Enc α} {t₀ type T : TypeId} {i : TypeInfo} {z : Value} {x y : Operand} {sx : SV} {kb : Nat} {cs : List SV} {drawn : Bool} {j : Nat} {t t' un : List Nat} {fs : Facts} {cl : Call}
    (hcl : cl = { callee := .builtin .append, args := #[x, y], argTypes := #[t₀, t₀] })
    (ht : G.P.underlying t₀ = some (.slice T)) (hi : G.P.info? T = some i) (hz : i.zero = some z) (hsize : i.size = E.sz) (hzs : z.cells.size = E.sz) (hsz : 0 < E.sz) (hbs : i.bytes ≤ 1000) (h1 : ∀ x, ∀ u ∈ E.enc x, u.oneCell' = true)
    (s : Value) (L : List α) (a : α) (hx : sx.den ε = s) (hf : findH fs kb = some cs) (hcs : denL ε cs = E.enc a)
    (hb : L.length + 1 ≤ 65000000000) (hF : ∀ w, Shown G ε t fs wx w → ∀ g, s.ownBlock = some g → FpOk G drawn X ε un w g)
    (hown : ∀ w, Shown G ε t fs wx w → Tail E T w s L)
    (hj : ∀ v, nth (ε ++ [v]) j = v)
    (hk : ∀ w s' w', Shown G ε t fs wx w → Tail E T w' s' (L ++ [a]) → Kept (fun b => s.ownBlock = some b) w w' → (∀ g, s'.ownBlock = some g → s.ownBlock = some g ∨ w.heap.size ≤ g) →
      k.den G Λ (ε ++ [s']) w' (if drawn then ws else w') (if drawn then X else BlkIn ε t')) :
    (VC.gen (.call cl) type [(x, sx), (y, SV.slc kb 0 1 1)] [Base.slice] (.var j) [] drawn t t' un fs k).den G Λ ε wx ws X := by
  subst hcl
  refine den_genF (fun b => s.ownBlock = some b) (fun w l w' => ∃ v', l = [v'] ∧ Tail E T w' v' (L ++ [a]) ∧ (∀ g, v'.ownBlock = some g → s.ownBlock = some g ∨ w.heap.size ≤ g)) (fun w hw g hg _ => hF w hw g hg) ?_ ?_
  · intro w hw ρ hρ
    obtain ⟨b, ty, hb', hh⟩ := findH_facts hw.facts hf
    have e1 : ρ x = s := by have := hρ (x, sx.den ε) (by simp); rw [this, hx]
    have e2 : ρ y = .slice (some ⟨b, 0, none⟩) 1 1 := by have := hρ (y, (SV.slc kb 0 1 1).den ε) (by simp); rw [this]; simp only [SV.den, hb', vaddr, addO, Option.map_some, addr_add, Nat.zero_add]
    have hcell : ∀ (j : Nat) u, (E.enc a)[j]? = some u → w.cell? ((⟨b, 0, none⟩ : Addr).add j) = some u := fun j u hu => by
      rw [addr_add, Nat.zero_add]
      rw [← hcs] at hu
      simp [World.cell?, hh, hu]
    obtain ⟨v', w', hr, ho', hk', hfr⟩ := run_pushT (P := G.P) (ty := type) ht hi hz hsize hzs hsz hbs h1 w s L ⟨b, 0, none⟩ 1 a (hown w hw) hcell hb
    obtain ⟨a', c', hsl⟩ := ho'.slice
    refine .inl ⟨v', w', .inl ?_, ⟨[v'], ⟨⟨_, _, _, hsl⟩, trivial⟩, ?_, v', rfl, ho', hfr⟩, hk'⟩
    · simp [execOp, bare, resolve, invoke, builtin, e1, e2, hr]
    · simp only [SV.den]; exact (hj _).symm
  · rintro w l w' hw hl' ⟨v', rfl, h2, h3⟩ hs
    exact hk w v' w' hw h2 hs h3
end
end Go.Sx

/- Part ZG of a symbolic run of Go code by computation: its states, conditions and the proof that a condition that holds says what the function returns. No conditions of its own. -/
set_option linter.unusedVariables false
set_option linter.unusedSimpArgs false
namespace Go.Sx
open Go.RowKit

/-! bytes, and strings of bytes -/
def byteE : Enc Int := ⟨fun n => [.int .u8 n], 1, fun _ => rfl⟩
theorem byte_flat (D : List Int) : D.flatMap byteE.enc = D.map (Value.int .u8) := by
  induction D with
  | nil => rfl
  | cons x D ih => simp [byteE] at ih ⊢; exact ih
theorem byte_one (x : Int) : ∀ u ∈ byteE.enc x, u.oneCell' = true := by intro u hu; simp [byteE] at hu; subst hu; rfl
def strV (D : List Int) : Value := .string (strOfNums D)
def strEq (D D' : List Int) : Bool := (strOfNums D).toList == (strOfNums D').toList
theorem strEq_refl (D : List Int) : strEq D D = true := by simp [strEq]

theorem run_str {P : Program} {src e dst : TypeId} (hs : P.underlying src = some (.slice e)) (he : P.underlying e = some (.int .u8)) (hd : P.underlying dst = some .string) {w : World} {s : Value} {D : List Int} (h : Arr byteE w s D) :
    (convert src dst s).run P w = .ok (strV D) w := by
  obtain ⟨a, c, rfl⟩ := h.slice
  cases a with
  | none =>
    obtain ⟨rfl, _⟩ := h.none (by decide)
    exact run_convert_bytes_nil w src e hs he _ c dst hd
  | some a =>
    have hl : (loadCells a D.length).run P w = .ok (D.map (Value.int .u8)).toArray w := by
      have := run_loadCells_list (P := P) w a (D.map (Value.int .u8)) (fun j v hj => by
        obtain ⟨ad, had, hc⟩ := Reads.cell h j v (by rw [byte_flat]; exact hj)
        cases had
        exact hc)
      simpa using this
    rw [run_convert_bytes_string w src dst e _ D.length c hs he hd, run_bytesToString w _ D.length c D hl, foldl_push_bytes]
    simp [strV, strOfNums, ByteArray.empty, ByteArray.emptyWithCapacity]
    rfl

section
variable {G : Ctx} {Λ : Nat → List Value → World → Prop} {ε : List Value} {wx ws : World} {X : Nat → Prop} {k k' : VC}
/-- string(s) -/
theorem den_str {src dst e type : TypeId} {x : Operand} {sx : SV} {j : Nat} (D : List Int) (s : Value) (hs : G.P.underlying src = some (.slice e)) (he : G.P.underlying e = some (.int .u8)) (hd : G.P.underlying dst = some .string)
    (hx : sx.den ε = s) (hA : Arr byteE ws s D) (hX : ∀ ad, vaddr s = some ad → ad.block < ws.heap.size → ¬ X ad.block) (hj : ∀ v, nth (ε ++ [v]) j = v) (hk : k.den G Λ (ε ++ [strV D]) wx ws X) :
    (VC.pur (.convert src dst x) type [(x, sx)] [Base.any] (.var j) k).den G Λ ε wx ws X := by
  refine den_pur [strV D] ⟨rfl, trivial⟩ (fun ρ hρ w' hk' => ?_) hk
  have e1 : ρ x = s := by have := hρ (x, sx.den ε) (by simp); rw [this, hx]
  have := run_str hs he hd (hA.kept hk' hX)
  simp only [SV.den, hj]
  simp [execOp, bare, e1, this]
/-- string comparison -/
theorem den_strNe {t₀ type : TypeId} {x y : Operand} {p : Nat} {sx sy : SV} {j : Nat} (D D' : List Int) (hx : sx.den ε = strV D) (hy : sy.den ε = strV D') (hj : ∀ v, nth (ε ++ [v]) j = v) (hk : k.den G Λ (ε ++ [.bool (!strEq D D')]) wx ws X) :
    (VC.pur (.binOp .neq t₀ x y p) type [(x, sx), (y, sy)] [Base.bool] (.bool (.var j)) k).den G Λ ε wx ws X := by
  refine den_pur [.bool (!strEq D D')] ⟨⟨_, rfl⟩, trivial⟩ (fun ρ hρ w' _ => ?_) hk
  have e1 : ρ x = strV D := by have := hρ (x, sx.den ε) (by simp); rw [this, hx]
  have e2 : ρ y = strV D' := by have := hρ (y, sy.den ε) (by simp); rw [this, hy]
  simp only [SV.den, BE.den, hj, vbool]
  simp [execOp, bare, e1, e2, strV, strEq, go_sem, Result.andThen]
theorem den_strEq {t₀ type : TypeId} {x y : Operand} {p : Nat} {sx sy : SV} {j : Nat} (D D' : List Int) (hx : sx.den ε = strV D) (hy : sy.den ε = strV D') (hj : ∀ v, nth (ε ++ [v]) j = v) (hk : k.den G Λ (ε ++ [.bool (strEq D D')]) wx ws X) :
    (VC.pur (.binOp .eql t₀ x y p) type [(x, sx), (y, sy)] [Base.bool] (.bool (.var j)) k).den G Λ ε wx ws X := by
  refine den_pur [.bool (strEq D D')] ⟨⟨_, rfl⟩, trivial⟩ (fun ρ hρ w' _ => ?_) hk
  have e1 : ρ x = strV D := by have := hρ (x, sx.den ε) (by simp); rw [this, hx]
  have e2 : ρ y = strV D' := by have := hρ (y, sy.den ε) (by simp); rw [this, hy]
  simp only [SV.den, BE.den, hj, vbool]
  simp [execOp, bare, e1, e2, strV, strEq, go_sem, Result.andThen]
end

section
variable {G : Ctx} {Λ : Nat → List Value → World → Prop} {ε : List Value} {wx ws : World} {X : Nat → Prop} {k k' : VC}
/-- two ways that come together -/
theorem den_cut {i : Nat} {bs : List Base} {t' : List Nat} {fs' : Facts} {ka kb : VC} (I : List Value → World → Prop) (ha : ka.den G (LoopΛ i I Λ) ε wx ws X)
    (hb : ∀ l w', Fits bs l → I l w' → Kept G.M G.W0 w' → FactsAt (ε ++ l) w' fs' → kb.den G Λ (ε ++ l) w' w' (BlkIn (ε ++ l) t')) : (VC.cut i bs t' fs' ka kb).den G Λ ε wx ws X :=
  ⟨I, ha, allB_intro fun l hl w' hI hk hf => hb l w' hl hI hk hf⟩
end

/-- the cells of a block from a place on -/
theorem Mine.block {α : Type} {E : Enc α} {T : TypeId} {w : World} {g n c : Nat} {L : List α} (h : Mine E T w (.slice (some ⟨g, 0, none⟩) n c) L) (hc : 0 < c) :
    ∃ cur, w.heap[g]? = some (.cells cur T (0, 0)) ∧ n = L.length ∧ L.length ≤ c ∧ c ≤ maxLen ∧ cur.size = c * E.sz ∧ cur.toList.take (L.length * E.sz) = L.flatMap E.enc := by
  rcases h with ⟨hl, ⟨e, _⟩ | ⟨g', cap, cur, e, _, hh, h1, h2, h3, h4⟩⟩ | ⟨rfl, g', cur, ty, e, hh⟩
  · cases e
  · cases e
    exact ⟨cur, hh, rfl, h1, h2, h3, h4⟩
  · cases e
    omega
/-- copy into a part of a slice of one's own -/
theorem run_copyM {P : Program} {dT sT ty T : TypeId} (hu : P.underlying dT = some (.slice T)) (hs : sizeT P T = some 1) {w : World} {g N C : Nat} {Z : List Int} (ho : Mine byteE T w (.slice (some ⟨g, 0, none⟩) N C) Z)
    {d : Value} {o n c : Nat} (hd : d = .slice (some ⟨g, o, none⟩) n c ∨ (n = 0 ∧ ∃ a, d = .slice a n c)) (hon : o + n ≤ N) {src : Value} {D : List Int} (hS : Arr byteE w src D) :
    ∃ w', (Builtin.copy_ #[dT, sT] ty #[d, src]).run P w = .ok (.int .i64 (min D.length n : Nat)) w' ∧ Mine byteE T w' (.slice (some ⟨g, 0, none⟩) N C) (Z.take o ++ D.take (min D.length n) ++ Z.drop (o + min D.length n)) ∧ Kept (fun b => b = g) w w' := by
  have hs' : (P.info? T).map (·.size) = some 1 := hs
  obtain ⟨a, cs, rfl⟩ := hS.slice
  by_cases hm : min D.length n = 0
  · have hd' : ∃ a, d = .slice a n c := by rcases hd with rfl | ⟨_, h⟩; exact ⟨_, rfl⟩; exact h
    obtain ⟨a', rfl⟩ := hd'
    have hr := run_copy_none (P := P) w dT sT ty T a' a n c D.length cs hu hs' hm
    refine ⟨w, by rw [hr, hm]; rfl, ?_, Kept.refl _ _⟩
    rw [hm]
    simpa using ho
  · have hn : 0 < n := by omega
    have hDl : 0 < D.length := by omega
    have hd' : d = .slice (some ⟨g, o, none⟩) n c := by rcases hd with h | ⟨h, _⟩; exact h; omega
    subst hd'
    have hcap := ho.cap
    have hNl : N = Z.length := by obtain ⟨_, _, e⟩ := ho.slice; cases e; rfl
    have hC : 0 < C := by simp only [vcap] at hcap; omega
    obtain ⟨cur, hh, _, h1, h2, h3, h4⟩ := ho.block hC
    cases a with
    | none => obtain ⟨rfl, _⟩ := hS.none (by decide); simp at hDl
    | some a =>
      have e1 : byteE.sz = 1 := rfl
      rw [e1, Nat.mul_one] at h3 h4
      have hlen : ((D.take (min D.length n)).map (Value.int .u8)).length = Nat.min D.length n := by simp only [List.length_map, List.length_take]; show min (min D.length n) D.length = min D.length n; omega
      have hsrc : ∀ (j : Nat) v, ((D.take (min D.length n)).map (Value.int .u8))[j]? = some v → w.cell? (a.add j) = some v := by
        intro j v hj
        rw [List.getElem?_map, Option.map_eq_some_iff] at hj
        obtain ⟨x, hx, rfl⟩ := hj
        rw [List.getElem?_take] at hx
        split at hx
        · obtain ⟨ad, had, hc⟩ := Reads.cell hS j (.int .u8 x) (by rw [byte_flat, List.getElem?_map, hx]; rfl)
          cases had
          exact hc
        · cases hx
      have hlen' : ((D.take (min D.length n)).map (Value.int .u8)).length = min D.length n := hlen
      have hfit : o + ((D.take (min D.length n)).map (Value.int .u8)).length ≤ cur.size := by rw [hlen', h3]; omega
      have hr := run_copy_row (P := P) w dT sT ty T g o n c a D.length cs cur T _ hu hs' hh hlen hsrc hfit (by intro v hv; obtain ⟨x, _, rfl⟩ := List.mem_map.1 hv; rfl)
      refine ⟨_, hr.trans (by rw [hlen']; rfl), .inl ⟨flatMap_length byteE _, .inr ⟨g, C, _, ?_, Nat.zero_le _, setRow_heap w g cur _ T (0, 0) hh, ?_, h2, ?_, ?_⟩⟩, ⟨rfl, rfl, rfl, by rw [setRow_size]; exact Nat.le_refl _, fun b hb hne => setRow_other _ _ _ _ hne⟩⟩
      · congr 1
        simp only [List.length_append, List.length_take, List.length_drop]; omega
      · simp only [List.length_append, List.length_take, List.length_drop]; omega
      · have hcl : cur.toList.length = cur.size := Array.length_toList
        simp only [e1, Nat.mul_one, List.size_toArray, List.length_append, List.length_take, List.length_drop, List.length_map, hcl]
        omega
      · have hcl : cur.toList.length = cur.size := Array.length_toList
        have hz : cur.toList.take Z.length = Z.map (Value.int .u8) := by rw [h4, byte_flat]
        have hcd : cur.toList = Z.map (Value.int .u8) ++ cur.toList.drop Z.length := by rw [← hz, List.take_append_drop]
        rw [byte_flat, e1, Nat.mul_one, List.toList_toArray]
        simp only [List.map_append, List.map_take, List.map_drop]
        have hz2 : (Z.map (Value.int .u8)).length = Z.length := by simp
        have t1 : cur.toList.take o = (Z.map (Value.int .u8)).take o := by rw [hcd, List.take_append_of_le_length (by rw [hz2]; omega)]
        have t2 : cur.toList.drop (o + min D.length n) = (Z.map (Value.int .u8)).drop (o + min D.length n) ++ cur.toList.drop Z.length := by
          conv => lhs; rw [hcd]
          rw [List.drop_append_of_le_length (by rw [hz2]; omega)]
        rw [t1, t2, ← List.append_assoc]
        apply List.take_left'
        simp only [List.length_append, List.length_take, List.length_drop, List.length_map]

section
variable {G : Ctx} {Λ : Nat → List Value → World → Prop} {ε : List Value} {wx ws : World} {X : Nat → Prop} {k k' : VC}
theorem den_copyM {dT sT T type : TypeId} {x y : Operand} {sx sy : SV} {drawn : Bool} {j : Nat} {t t' un : List Nat} {fs : Facts} {cl : Call}
    (hcl : cl = { callee := .builtin .copy, args := #[x, y], argTypes := #[dT, sT] })
    (hu : G.P.underlying dT = some (.slice T)) (hs : sizeT G.P T = some 1) (g N C : Nat) (Z : List Int) (d : Value) (o n c : Nat) (hx : sx.den ε = d) (hd : d = .slice (some ⟨g, o, none⟩) n c ∨ (n = 0 ∧ ∃ a, d = .slice a n c)) (hon : o + n ≤ N) (src : Value) (D : List Int) (hy : sy.den ε = src)
    (hown : ∀ w, Shown G ε t fs wx w → Mine byteE T w (.slice (some ⟨g, 0, none⟩) N C) Z ∧ Arr byteE w src D)
    (hF : ∀ w, Shown G ε t fs wx w → FpOk G drawn X ε un w g)
    (hj : ∀ v, nth (ε ++ [v]) j = v)
    (hk : ∀ w w', Shown G ε t fs wx w → Mine byteE T w' (.slice (some ⟨g, 0, none⟩) N C) (Z.take o ++ D.take (min D.length n) ++ Z.drop (o + min D.length n)) → Kept (fun b => b = g) w w' →
      k.den G Λ (ε ++ [.int .i64 (min D.length n : Nat)]) w' (if drawn then ws else w') (if drawn then X else BlkIn ε t')) :
    (VC.gen (.call cl) type [(x, sx), (y, sy)] [Base.int .i64] (.int .i64 (.var j)) [] drawn t t' un fs k).den G Λ ε wx ws X := by
  subst hcl
  refine den_genF (fun b => b = g) (fun w l w' => l = [.int .i64 (min D.length n : Nat)] ∧ Mine byteE T w' (.slice (some ⟨g, 0, none⟩) N C) (Z.take o ++ D.take (min D.length n) ++ Z.drop (o + min D.length n))) (fun w hw b hb _ => by subst hb; exact hF w hw) ?_ ?_
  · intro w hw ρ hρ
    have e1 : ρ x = d := by have := hρ (x, sx.den ε) (by simp); rw [this, hx]
    have e2 : ρ y = src := by have := hρ (y, sy.den ε) (by simp); rw [this, hy]
    obtain ⟨w', hr, hm, hk'⟩ := run_copyM (ty := type) (sT := sT) hu hs (hown w hw).1 hd hon (hown w hw).2
    refine .inl ⟨.int .i64 (min D.length n : Nat), w', .inl ?_, ⟨[.int .i64 (min D.length n : Nat)], ⟨⟨_, rfl⟩, trivial⟩, ?_, rfl, hm⟩, hk'⟩
    · simp [execOp, bare, resolve, invoke, builtin, e1, e2, hr]
    · simp only [SV.den, IE.den, hj, vint]
  · rintro w l w' hw _ ⟨rfl, h2⟩ hs'
    exact hk w w' hw h2 hs'
end
end Go.Sx

/- Part ZH of a symbolic run of Go code by computation: its states, conditions and the proof that a condition that holds says what the function returns. No conditions of its own. -/
set_option linter.unusedVariables false
set_option linter.unusedSimpArgs false
namespace Go.Sx
open Go.RowKit

/-- append within the capacity of a block of one's own, all of whose cells are known -/
theorem run_appendIn {P : Program} {t₀ ty T : TypeId} {i : TypeInfo} (hu : P.underlying t₀ = some (.slice T)) (hi : P.info? T = some i) (hsz : i.size = 1) {w : World} {g N o : Nat} {F : List Int} (hN : 0 < N) (ho : Mine byteE T w (.slice (some ⟨g, 0, none⟩) N N) F)
    {src : Value} {D : List Int} (hfit : o + D.length ≤ N) (hS : Arr byteE w src D) (hsn : ∀ n c, src = .slice none n c → n = 0 ∧ c = 0) :
    ∃ w', (Builtin.append_ #[t₀, t₀] ty #[.slice (some ⟨g, 0, none⟩) o N, src]).run P w = .ok (.slice (some ⟨g, 0, none⟩) (o + D.length) N) w' ∧ Mine byteE T w' (.slice (some ⟨g, 0, none⟩) N N) (F.take o ++ D ++ F.drop (o + D.length)) ∧ Kept (fun b => b = g) w w' := by
  obtain ⟨a, cs, rfl⟩ := hS.slice
  cases a with
  | none =>
    obtain ⟨rfl, _⟩ := hS.none (by decide)
    obtain ⟨hm, rfl⟩ := hsn _ _ rfl
    refine ⟨w, ?_, by simpa using ho, Kept.refl _ _⟩
    simp [Builtin.append_, run_underlying hu, sizeOf, typeInfo, hi, Builtin.lenOf, Builtin.firstCells, storeCells]
    omega
  | some a =>
    have hNl : N = F.length := by obtain ⟨_, _, e⟩ := ho.slice; cases e; rfl
    obtain ⟨cur, hh, _, h1, h2, h3, h4⟩ := ho.block hN
    have e1 : byteE.sz = 1 := rfl
    rw [e1, Nat.mul_one] at h3 h4
    have hnews : ∀ (j : Nat) u, (D.map (Value.int .u8))[j]? = some u → w.cell? (a.add j) = some u := by
      intro j v hj
      obtain ⟨ad, had, hc⟩ := Reads.cell hS j v (by rw [byte_flat]; exact hj)
      cases had
      exact hc
    have hr := run_append_room (P := P) w t₀ ty T i hu hi g o N cur hh a D.length cs (D.map (Value.int .u8)) (by rw [hsz]; simp) hnews (by intro v hv; obtain ⟨x, _, rfl⟩ := List.mem_map.1 hv; rfl) hfit (by rw [hsz, h3]; simpa using hfit)
    rw [hsz, Nat.mul_one] at hr
    refine ⟨_, hr, .inl ⟨flatMap_length byteE _, .inr ⟨g, N, _, ?_, Nat.zero_le _, setRow_heap w g cur _ T (0, 0) hh, ?_, h2, ?_, ?_⟩⟩, ⟨rfl, rfl, rfl, by rw [setRow_size]; exact Nat.le_refl _, fun b hb hne => setRow_other _ _ _ _ hne⟩⟩
    · congr 1
      simp only [List.length_append, List.length_take, List.length_drop]; omega
    · simp only [List.length_append, List.length_take, List.length_drop]; omega
    · have hcl : cur.toList.length = cur.size := Array.length_toList
      simp only [e1, Nat.mul_one, List.size_toArray, List.length_append, List.length_take, List.length_drop, List.length_map, hcl]
      omega
    · have hcl : cur.toList.length = cur.size := Array.length_toList
      have hz : cur.toList.take F.length = F.map (Value.int .u8) := by rw [h4, byte_flat]
      have hcd : cur.toList = F.map (Value.int .u8) := by rw [← hz, List.take_of_length_le (by rw [hcl]; omega)]
      rw [byte_flat, e1, Nat.mul_one, List.toList_toArray]
      simp only [List.map_append, List.map_take, List.map_drop]
      rw [hcd, List.length_map]
      apply List.take_of_length_le
      simp only [List.length_append, List.length_take, List.length_drop, List.length_map]
      omega

section
variable {G : Ctx} {Λ : Nat → List Value → World → Prop} {ε : List Value} {wx ws : World} {X : Nat → Prop} {k k' : VC}
theorem den_appendIn {t₀ T type : TypeId} {i : TypeInfo} {x y : Operand} {sx sy : SV} {drawn : Bool} {j : Nat} {t t' un : List Nat} {fs : Facts} {cl : Call}
    (hcl : cl = { callee := .builtin .append, args := #[x, y], argTypes := #[t₀, t₀] })
    (hu : G.P.underlying t₀ = some (.slice T)) (hi : G.P.info? T = some i) (hsz : i.size = 1) (g N o : Nat) (F : List Int) (hN : 0 < N) (hx : sx.den ε = .slice (some ⟨g, 0, none⟩) o N) (src : Value) (D : List Int) (hy : sy.den ε = src) (hfit : o + D.length ≤ N) (hsn : ∀ n c, src = .slice none n c → n = 0 ∧ c = 0)
    (hown : ∀ w, Shown G ε t fs wx w → Mine byteE T w (.slice (some ⟨g, 0, none⟩) N N) F ∧ Arr byteE w src D)
    (hF : ∀ w, Shown G ε t fs wx w → FpOk G drawn X ε un w g)
    (hj : ∀ v, nth (ε ++ [v]) j = v)
    (hk : ∀ w w', Shown G ε t fs wx w → Mine byteE T w' (.slice (some ⟨g, 0, none⟩) N N) (F.take o ++ D ++ F.drop (o + D.length)) → Kept (fun b => b = g) w w' →
      k.den G Λ (ε ++ [.slice (some ⟨g, 0, none⟩) (o + D.length) N]) w' (if drawn then ws else w') (if drawn then X else BlkIn ε t')) :
    (VC.gen (.call cl) type [(x, sx), (y, sy)] [Base.slice] (.var j) [] drawn t t' un fs k).den G Λ ε wx ws X := by
  subst hcl
  refine den_genF (fun b => b = g) (fun w l w' => l = [.slice (some ⟨g, 0, none⟩) (o + D.length) N] ∧ Mine byteE T w' (.slice (some ⟨g, 0, none⟩) N N) (F.take o ++ D ++ F.drop (o + D.length))) (fun w hw b hb _ => by subst hb; exact hF w hw) ?_ ?_
  · intro w hw ρ hρ
    have e1 : ρ x = .slice (some ⟨g, 0, none⟩) o N := by have := hρ (x, sx.den ε) (by simp); rw [this, hx]
    have e2 : ρ y = src := by have := hρ (y, sy.den ε) (by simp); rw [this, hy]
    obtain ⟨w', hr, hm, hk'⟩ := run_appendIn (P := G.P) (ty := type) hu hi hsz hN (hown w hw).1 hfit (hown w hw).2 hsn
    refine .inl ⟨.slice (some ⟨g, 0, none⟩) (o + D.length) N, w', .inl ?_, ⟨[.slice (some ⟨g, 0, none⟩) (o + D.length) N], ⟨⟨_, _, _, rfl⟩, trivial⟩, ?_, rfl, hm⟩, hk'⟩
    · simp [execOp, bare, resolve, invoke, builtin, e1, e2, hr]
    · simp only [SV.den]; exact (hj _).symm
  · rintro w l w' hw hl' ⟨rfl, h2⟩ hs
    exact hk w w' hw h2 hs
/-- make([]T, n, c) -/
theorem den_makeC {t₀ e type : TypeId} {i : TypeInfo} {z : Value} {x y : Operand} {ex ey : IE} {kx ky : IntKind} {n c : Nat} {drawn : Bool} {j : Nat} {t t' un : List Nat} {fs : Facts}
    (ht : G.P.underlying t₀ = some (.slice e)) (hi : G.P.info? e = some i) (hz : i.zero = some z) (hex : ex.den ε = n) (hey : ey.den ε = c) (hnc : n ≤ c) (hbytes : (i.bytes : Int) * c ≤ 281474976710656) (h63 : (c : Int) ≤ 9223372036854775807)
    (hj : ∀ v, nth (ε ++ [v]) j = v)
    (hk : ∀ w b w', Shown G ε t fs wx w → w.heap.size ≤ b → w'.heap[b]? = some (.cells (madeCells z.cells (c * i.size)) e (0, 0)) → Same w w' →
      k.den G Λ (ε ++ [.slice (some ⟨b, 0, none⟩) n c]) w' (if drawn then ws else w') (if drawn then X else BlkIn ε t')) :
    (VC.gen (.makeSlice t₀ x y) type [(x, .int kx ex), (y, .int ky ey)] [Base.slice] (.var j) [] drawn t t' un fs k).den G Λ ε wx ws X := by
  refine den_gen (fun w l w' => ∃ b, w.heap.size ≤ b ∧ w'.heap[b]? = some (.cells (madeCells z.cells (c * i.size)) e (0, 0)) ∧ l = [.slice (some ⟨b, 0, none⟩) n c]) ?_ ?_
  · intro w hw ρ hρ
    have h1 : ρ x = .int kx n := by have := hρ (x, .int kx (ex.den ε)) (by simp [SV.den]); rw [this, hex]
    have h2 : ρ y = .int ky c := by have := hρ (y, .int ky (ey.den ε)) (by simp [SV.den]); rw [this, hey]
    have hr := run_make (P := G.P) w t₀ e i z ht hi hz kx ky n c (by omega) (by omega) hbytes h63
    simp only [Int.toNat_natCast] at hr
    have hs : Same w (w.alloc (.cells (madeCells z.cells (c * i.size)) e (0, 0))) := (Kept.refl _ w).alloc _
    refine .inl ⟨.slice (some ⟨w.heap.size, 0, none⟩) n c, w.alloc (.cells (madeCells z.cells (c * i.size)) e (0, 0)), .inl ?_, ⟨[.slice (some ⟨w.heap.size, 0, none⟩) n c], ⟨⟨_, _, _, rfl⟩, trivial⟩, ?_, w.heap.size, Nat.le_refl _, heap_alloc_new w _, rfl⟩, hs⟩
    · simp [execOp, bare, h1, h2, hr]
    · simp only [SV.den]; exact (hj _).symm
  · rintro w l w' hw hl ⟨b, h2, h3, rfl⟩ hs
    exact hk w b w' hw h2 h3 hs
end
end Go.Sx

/- Part ZI of a symbolic run of Go code by computation: its states, conditions and the proof that a condition that holds says what the function returns. No conditions of its own. -/
set_option linter.unusedVariables false
set_option linter.unusedSimpArgs false
namespace Go.Sx
open Go.RowKit

/-! maps whose keys and elements are integers -/
/-- the block is a map that holds these -/
def MapAt (ky vy : IntKind) (w : World) (b : Nat) (f : Int → Option Int) : Prop :=
  ∃ es clock, w.heap[b]? = some (.map es clock) ∧ MapKept.Stamped es clock ∧ (∀ x ∈ es.toList, ∃ k v, x.key = .int ky k ∧ x.val = .int vy v ∧ f k = some v) ∧ (∀ k v, f k = some v → ∃ x ∈ es.toList, x.key = .int ky k)
def upd (f : Int → Option Int) (k v : Int) : Int → Option Int := fun j => if j = k then some v else f j
section
variable {ky vy : IntKind} {w w' : World} {b : Nat} {f : Int → Option Int}
theorem MapAt.lt (h : MapAt ky vy w b f) : b < w.heap.size := by
  obtain ⟨es, clock, hh, _⟩ := h
  exact (Array.getElem?_eq_some_iff.1 hh).1
theorem MapAt.of_eq (h : MapAt ky vy w b f) (he : w'.heap[b]? = w.heap[b]?) : MapAt ky vy w' b f := by
  obtain ⟨es, clock, hh, rest⟩ := h
  exact ⟨es, clock, he.trans hh, rest⟩
theorem MapAt.kept {M : Nat → Prop} (h : MapAt ky vy w b f) (hk : Kept M w w') (hM : ¬ M b) : MapAt ky vy w' b f := h.of_eq (hk.block b h.lt hM)
theorem MapAt.same (h : MapAt ky vy w b f) (hk : Same w w') : MapAt ky vy w' b f := h.kept hk fun h => h
theorem MapAt.notRec (h : MapAt ky vy w b f) : ¬ IsRec w b := by
  obtain ⟨es, clock, hh, _⟩ := h
  rintro ⟨o, ho, hr⟩
  rw [hh] at ho
  cases ho
  cases hr
theorem MapAt.quiet (h : MapAt ky vy w b f) (hk : Quiet w w') : MapAt ky vy w' b f := h.kept hk h.notRec
theorem MapAt.isKey (h : MapAt ky vy w b f) : ∃ es clock, w.heap[b]? = some (.map es clock) ∧ ∀ x ∈ es.toList, MapKept.IsKey (.int ky) x.key := by
  obtain ⟨es, clock, hh, _, h1, _⟩ := h
  refine ⟨es, clock, hh, fun x hx => ?_⟩
  obtain ⟨k, v, e, _⟩ := h1 x hx
  rw [e]
  rfl
variable {P : Program} {t kt et : TypeId}
theorem run_lookupM (ht : P.underlying t = some (.map kt et)) (hk : P.underlying kt = some (.int ky)) (hz : ∀ w, (zeroValue et).run P w = .ok (.int vy 0) w) (h : MapAt ky vy w b f) (k : Int) :
    (Instr.lookup t (.map (some b)) (.int ky k) true).run P w = .ok (.tuple #[.int vy ((f k).getD 0), .bool (f k).isSome]) w := by
  obtain ⟨es, clock, hh, hs, h1, h2⟩ := h
  have hks : ∀ x ∈ es.toList, MapKept.IsKey (.int ky) x.key := fun x hx => by
    obtain ⟨k, v, e, _⟩ := h1 x hx
    rw [e]
    rfl
  have hkk : MapKept.IsKey (.int ky) (.int ky k) := rfl
  rcases MapKept.findNow_spec hkk es.toList 0 hks with ⟨e1, e2⟩ | ⟨j, e, e1, e2, e3⟩
  · have hn : f k = none := by
      cases hf : f k with
      | none => rfl
      | some v =>
        obtain ⟨x, hx, e⟩ := h2 k v hf
        exact absurd e (e2 x hx)
    simp [Instr.lookup, run_underlying ht, MapKept.run_getObj_map hh, MapKept.run_checkKey hk hkk, MapKept.run_findKey hk e1, hz, Result.andThen, hn]
  · obtain ⟨k', v, a1, a2, a3⟩ := h1 e (List.mem_of_getElem? e2)
    rw [a1] at e3
    cases e3
    simp [Instr.lookup, run_underlying ht, MapKept.run_getObj_map hh, MapKept.run_checkKey hk hkk, MapKept.run_findKey hk e1, Result.andThen, a2, a3]
theorem run_updateM (ht : P.underlying t = some (.map kt et)) (hk : P.underlying kt = some (.int ky)) (h : MapAt ky vy w b f) (k v : Int) :
    ∃ w', (Instr.mapUpdate t (.map (some b)) (.int ky k) (.int vy v)).run P w = .ok () w' ∧ MapAt ky vy w' b (upd f k v) ∧ Kept (fun x => x = b) w w' := by
  obtain ⟨es, clock, hh, hs, h1, h2⟩ := h
  have hks : ∀ x ∈ es.toList, MapKept.IsKey (.int ky) x.key := fun x hx => by
    obtain ⟨k, v, e, _⟩ := h1 x hx
    rw [e]
    rfl
  have hkk : MapKept.IsKey (.int ky) (.int ky k) := rfl
  have kept : ∀ o : Obj, Kept (fun x => x = b) w { w with heap := w.heap.setIfInBounds b o } := fun o => ⟨rfl, rfl, rfl, by simp, fun r hr hne => (MapKept.heap_set hh).2 r hne⟩
  rcases MapKept.findNow_spec hkk es.toList 0 hks with ⟨e1, e2⟩ | ⟨j, e, e1, e2, e3⟩
  · refine ⟨_, by simp [Instr.mapUpdate, run_underlying ht, MapKept.run_getObj_map hh, MapKept.run_checkKey hk hkk, MapKept.run_findKey hk e1, MapKept.run_setObj_map _ hh, Result.andThen]; rfl, ⟨_, _, (MapKept.heap_set hh).1, MapKept.stamped_push hs e2, ?_, ?_⟩, kept _⟩
    · intro x hx
      simp only [Array.toList_push, List.mem_append, List.mem_singleton] at hx
      rcases hx with hx | rfl
      · obtain ⟨k', v', a1, a2, a3⟩ := h1 x hx
        refine ⟨k', v', a1, a2, ?_⟩
        have : k' ≠ k := fun e => e2 x hx (by rw [a1, e])
        simp [upd, this, a3]
      · exact ⟨k, v, rfl, rfl, by simp [upd]⟩
    · intro k' v' hf
      unfold upd at hf
      split at hf
      · rename_i e
        subst e
        exact ⟨{ key := .int ky k', val := .int vy v, born := clock }, by simp, rfl⟩
      · obtain ⟨x, hx, e⟩ := h2 k' v' hf
        exact ⟨x, by simp [hx], e⟩
  · have hj : es[j]? = some e := by simpa using e2
    have hkey : ∀ e', es[j]? = some e' → ({ e' with key := .int ky k, val := .int vy v } : MapEntry).key = e'.key := fun e' he' => by rw [hj] at he'; cases he'; exact e3.symm
    refine ⟨{ w with heap := w.heap.setIfInBounds b (.map (es.modify j fun e => { e with key := .int ky k, val := .int vy v }) clock) }, by simp [Instr.mapUpdate, run_underlying ht, MapKept.run_getObj_map hh, MapKept.run_checkKey hk hkk, MapKept.run_findKey hk e1, hj, e3, MapKept.run_keyThatStays hkk, MapKept.run_setObj_map _ hh, Result.andThen], ⟨_, _, (MapKept.heap_set hh).1, MapKept.stamped_modify hs j (fun e => { e with key := .int ky k, val := .int vy v }) (fun _ _ => rfl) (fun e' _ he' => hkey e' he'), ?_, ?_⟩, kept _⟩
    · intro x hx
      obtain ⟨i, hi⟩ := List.getElem?_of_mem hx
      rw [Array.getElem?_toList, Array.getElem?_modify] at hi
      by_cases hij : j = i
      · subst hij
        rw [if_pos rfl, hj] at hi
        cases hi
        exact ⟨k, v, rfl, rfl, by simp [upd]⟩
      · rw [if_neg hij] at hi
        have hx' : x ∈ es.toList := List.mem_of_getElem? (by rw [Array.getElem?_toList]; exact hi)
        obtain ⟨k', v', a1, a2, a3⟩ := h1 x hx'
        refine ⟨k', v', a1, a2, ?_⟩
        have : k' ≠ k := fun ee => by
          have nd := hs.2.2
          have p1 : (es.toList.map (·.key))[i]? = some (.int ky k) := by rw [List.getElem?_map, Array.getElem?_toList, hi]; simp [a1, ee]
          have p2 : (es.toList.map (·.key))[j]? = some (.int ky k) := by rw [List.getElem?_map, Array.getElem?_toList, hj]; simp [e3]
          have hi' := (List.getElem?_eq_some_iff.1 p1)
          have hj' := (List.getElem?_eq_some_iff.1 p2)
          obtain ⟨hi1, hi2⟩ := hi'
          obtain ⟨hj1, hj2⟩ := hj'
          rcases Nat.lt_or_gt_of_ne hij with hlt | hlt
          · exact List.pairwise_iff_getElem.1 nd j i hj1 hi1 hlt (hj2.trans hi2.symm)
          · exact List.pairwise_iff_getElem.1 nd i j hi1 hj1 hlt (hi2.trans hj2.symm)
        simp [upd, this, a3]
    · intro k' v' hf
      have old : ∀ x ∈ es.toList, x.key = .int ky k' → ∃ x ∈ (es.modify j fun e => { e with key := .int ky k, val := .int vy v }).toList, x.key = .int ky k' := fun x hx e => by
        have : .int ky k' ∈ es.toList.map (·.key) := List.mem_map.2 ⟨x, hx, e⟩
        rw [← MapKept.modify_keys j (fun e => { e with key := .int ky k, val := .int vy v }) hkey] at this
        obtain ⟨y, hy, e⟩ := List.mem_map.1 this
        exact ⟨y, hy, e⟩
      unfold upd at hf
      split at hf
      · rename_i ee
        subst ee
        exact old e (List.mem_of_getElem? e2) e3
      · obtain ⟨x, hx, ee⟩ := h2 k' v' hf
        exact old x hx ee
theorem map_new (o : World) : MapAt ky vy (o.alloc (.map #[] 0)) o.heap.size (fun _ => none) :=
  ⟨#[], 0, (MapKept.heap_alloc o _).1, MapKept.stamped_empty 0, by simp, fun k v h => by cases h⟩
end

section
variable {G : Ctx} {Λ : Nat → List Value → World → Prop} {ε : List Value} {wx ws : World} {X : Nat → Prop} {k k' : VC}
theorem den_lookup {ky vy : IntKind} {t kt et type : TypeId} {x ix : Operand} {sx : SV} {e : IE} {j j2 : Nat} {drawn : Bool} {tt t' un : List Nat} {fs : Facts} (b : Nat) (f : Int → Option Int)
    (ht : G.P.underlying t = some (.map kt et)) (hk0 : G.P.underlying kt = some (.int ky)) (hz : ∀ w, (zeroValue et).run G.P w = .ok (.int vy 0) w) (hx : sx.den ε = .map (some b))
    (hm : ∀ w, Shown G ε tt fs wx w → MapAt ky vy w b f) (hj : ∀ v u, nth (ε ++ [v, u]) j = v) (hj2 : ∀ v u, nth (ε ++ [v, u]) j2 = u)
    (hk : ∀ w w', Shown G ε tt fs wx w → Same w w' → k.den G Λ (ε ++ [.int vy ((f (e.den ε)).getD 0), .bool (f (e.den ε)).isSome]) w' (if drawn then ws else w') (if drawn then X else BlkIn ε t')) :
    (VC.gen (.lookup t x ix true) type [(x, sx), (ix, .int ky e)] [Base.int vy, Base.bool] (.tuple [.int vy (.var j), .bool (.var j2)]) [] drawn tt t' un fs k).den G Λ ε wx ws X := by
  refine den_gen (fun w l w' => l = [.int vy ((f (e.den ε)).getD 0), .bool (f (e.den ε)).isSome]) ?_ ?_
  · intro w hw ρ hρ
    have h1 : ρ x = .map (some b) := by have := hρ (x, sx.den ε) (by simp); rw [this, hx]
    have h2 : ρ ix = .int ky (e.den ε) := by have := hρ (ix, .int ky (e.den ε)) (by simp [SV.den]); rw [this]
    have hr := run_lookupM ht hk0 hz (hm w hw) (e.den ε)
    refine .inl ⟨.tuple #[.int vy ((f (e.den ε)).getD 0), .bool (f (e.den ε)).isSome], w, .inl ?_, ⟨[.int vy ((f (e.den ε)).getD 0), .bool (f (e.den ε)).isSome], ⟨⟨_, rfl⟩, ⟨_, rfl⟩, trivial⟩, ?_, rfl⟩, Kept.refl _ _⟩
    · simp [execOp, bare, h1, h2, hr]
    · simp only [SV.den, denL, IE.den, BE.den, hj, hj2, vint, vbool]
  · rintro w l w' hw hl rfl hs
    exact hk w w' hw hs
theorem den_update {ky vy : IntKind} {t kt et type : TypeId} {x ix vx : Operand} {sx : SV} {e1 e2 : IE} {drawn : Bool} {tt t' un : List Nat} {fs : Facts} {op : Op} (hop : op = .mapUpdate t x ix vx ∨ op = .insert t x ix vx) (b : Nat) (f : Int → Option Int)
    (ht : G.P.underlying t = some (.map kt et)) (hk0 : G.P.underlying kt = some (.int ky)) (hx : sx.den ε = .map (some b))
    (hm : ∀ w, Shown G ε tt fs wx w → MapAt ky vy w b f) (hF : ∀ w, Shown G ε tt fs wx w → FpOk G drawn X ε un w b)
    (hk : ∀ w w', Shown G ε tt fs wx w → MapAt ky vy w' b (upd f (e1.den ε) (e2.den ε)) → Kept (fun x => x = b) w w' → k.den G Λ ε w' (if drawn then ws else w') (if drawn then X else BlkIn ε t')) :
    (VC.gen op type [(x, sx), (ix, .int ky e1), (vx, .int vy e2)] [] undefS [] drawn tt t' un fs k).den G Λ ε wx ws X := by
  refine den_genF (fun z => z = b) (fun w l w' => l = [] ∧ MapAt ky vy w' b (upd f (e1.den ε) (e2.den ε))) (fun w hw z hz _ => by subst hz; exact hF w hw) ?_ ?_
  · intro w hw ρ hρ
    have h1 : ρ x = .map (some b) := by have := hρ (x, sx.den ε) (by simp); rw [this, hx]
    have h2 : ρ ix = .int ky (e1.den ε) := by have := hρ (ix, .int ky (e1.den ε)) (by simp [SV.den]); rw [this]
    have h3 : ρ vx = .int vy (e2.den ε) := by have := hρ (vx, .int vy (e2.den ε)) (by simp [SV.den]); rw [this]
    obtain ⟨w', hr, hm', hk'⟩ := run_updateM (P := G.P) ht hk0 (hm w hw) (e1.den ε) (e2.den ε)
    refine .inl ⟨undef, w', .inr ?_, ⟨[], trivial, rfl, rfl, hm'⟩, hk'⟩
    rcases hop with rfl | rfl
    · simp [execOp, bare, h1, h2, h3, hr]
    · simp [execOp, bare, h1, h2, h3, hr]
  · rintro w l w' hw hl' ⟨rfl, h2⟩ hs
    have := hk w w' hw h2 hs
    simpa using this
theorem den_makeMap {ky vy : IntKind} {t type : TypeId} {j : Nat} {drawn : Bool} {tt t' un : List Nat} {fs : Facts} (hj : ∀ v, nth (ε ++ [v]) j = v)
    (hk : ∀ w b w', Shown G ε tt fs wx w → w.heap.size ≤ b → MapAt ky vy w' b (fun _ => none) → Same w w' → k.den G Λ (ε ++ [.map (some b)]) w' (if drawn then ws else w') (if drawn then X else BlkIn ε t')) :
    (VC.gen (.makeMap t none) type [] [Base.map] (.var j) [] drawn tt t' un fs k).den G Λ ε wx ws X := by
  refine den_gen (fun w l w' => ∃ b, l = [.map (some b)] ∧ w.heap.size ≤ b ∧ MapAt ky vy w' b (fun _ => none)) ?_ ?_
  · intro w hw ρ hρ
    refine .inl ⟨.map (some w.heap.size), w.alloc (.map #[] 0), .inl ?_, ⟨[.map (some w.heap.size)], ⟨⟨_, rfl⟩, trivial⟩, ?_, w.heap.size, rfl, Nat.le_refl _, map_new w⟩, (Kept.refl _ w).alloc _⟩
    · simp [execOp, bare, run_makeMap]
    · simp only [SV.den]; exact (hj _).symm
  · rintro w l w' hw hl ⟨b, rfl, h2, h3⟩ hs
    exact hk w b w' hw h2 h3 hs
end
end Go.Sx
