/- Part ZG of a symbolic run of Go code by computation: its states, conditions and the proof that a condition that holds says what the function returns. No conditions of its own. -/
import Derived.Test.YtngemhmjpphpaaaSxZF
import Derived.Laws.BytesArg
import Derived.Laws.IdiomCopy
set_option linter.unusedVariables false
set_option linter.unusedSimpArgs false
namespace Go.Sx
open Go.RowKit

/-! bytes, and strings of bytes -/
def byteE : Enc Int := ⟨fun n => [.int .u8 n], 1, fun _ => rfl⟩
theorem byte_flat (D : List Int) : D.flatMap byteE.enc = D.map (Value.int .u8) := by
  induction D with
  | nil => rfl
  | cons x D ih => simp [byteE] at ih ⊢; exact ih
theorem byte_one (x : Int) : ∀ u ∈ byteE.enc x, u.oneCell' = true := by intro u hu; simp [byteE] at hu; subst hu; rfl
def strV (D : List Int) : Value := .string (strOfNums D)
def strEq (D D' : List Int) : Bool := (strOfNums D).toList == (strOfNums D').toList
theorem strEq_refl (D : List Int) : strEq D D = true := by simp [strEq]

theorem run_str {P : Program} {src e dst : TypeId} (hs : P.underlying src = some (.slice e)) (he : P.underlying e = some (.int .u8)) (hd : P.underlying dst = some .string) {w : World} {s : Value} {D : List Int} (h : Arr byteE w s D) :
    (convert src dst s).run P w = .ok (strV D) w := by
  obtain ⟨a, c, rfl⟩ := h.slice
  cases a with
  | none =>
    obtain ⟨rfl, _⟩ := h.none (by decide)
    exact run_convert_bytes_nil w src e hs he _ c dst hd
  | some a =>
    have hl : (loadCells a D.length).run P w = .ok (D.map (Value.int .u8)).toArray w := by
      have := run_loadCells_list (P := P) w a (D.map (Value.int .u8)) (fun j v hj => by
        obtain ⟨ad, had, hc⟩ := Reads.cell h j v (by rw [byte_flat]; exact hj)
        cases had
        exact hc)
      simpa using this
    rw [run_convert_bytes_string w src dst e _ D.length c hs he hd, run_bytesToString w _ D.length c D hl, foldl_push_bytes]
    simp [strV, strOfNums, ByteArray.empty, ByteArray.emptyWithCapacity]
    rfl

section
variable {G : Ctx} {Λ : Nat → List Value → World → Prop} {ε : List Value} {wx ws : World} {X : Nat → Prop} {k k' : VC}
/-- string(s) -/
theorem den_str {src dst e type : TypeId} {x : Operand} {sx : SV} {j : Nat} (D : List Int) (s : Value) (hs : G.P.underlying src = some (.slice e)) (he : G.P.underlying e = some (.int .u8)) (hd : G.P.underlying dst = some .string)
    (hx : sx.den ε = s) (hA : Arr byteE ws s D) (hX : ∀ ad, vaddr s = some ad → ad.block < ws.heap.size → ¬ X ad.block) (hj : ∀ v, nth (ε ++ [v]) j = v) (hk : k.den G Λ (ε ++ [strV D]) wx ws X) :
    (VC.pur (.convert src dst x) type [(x, sx)] [Base.any] (.var j) k).den G Λ ε wx ws X := by
  refine den_pur [strV D] ⟨rfl, trivial⟩ (fun ρ hρ w' hk' => ?_) hk
  have e1 : ρ x = s := by have := hρ (x, sx.den ε) (by simp); rw [this, hx]
  have := run_str hs he hd (hA.kept hk' hX)
  simp only [SV.den, hj]
  simp [execOp, bare, e1, this]
/-- string comparison -/
theorem den_strNe {t₀ type : TypeId} {x y : Operand} {p : Nat} {sx sy : SV} {j : Nat} (D D' : List Int) (hx : sx.den ε = strV D) (hy : sy.den ε = strV D') (hj : ∀ v, nth (ε ++ [v]) j = v) (hk : k.den G Λ (ε ++ [.bool (!strEq D D')]) wx ws X) :
    (VC.pur (.binOp .neq t₀ x y p) type [(x, sx), (y, sy)] [Base.bool] (.bool (.var j)) k).den G Λ ε wx ws X := by
  refine den_pur [.bool (!strEq D D')] ⟨⟨_, rfl⟩, trivial⟩ (fun ρ hρ w' _ => ?_) hk
  have e1 : ρ x = strV D := by have := hρ (x, sx.den ε) (by simp); rw [this, hx]
  have e2 : ρ y = strV D' := by have := hρ (y, sy.den ε) (by simp); rw [this, hy]
  simp only [SV.den, BE.den, hj, vbool]
  simp [execOp, bare, e1, e2, strV, strEq, go_sem, Result.andThen]
theorem den_strEq {t₀ type : TypeId} {x y : Operand} {p : Nat} {sx sy : SV} {j : Nat} (D D' : List Int) (hx : sx.den ε = strV D) (hy : sy.den ε = strV D') (hj : ∀ v, nth (ε ++ [v]) j = v) (hk : k.den G Λ (ε ++ [.bool (strEq D D')]) wx ws X) :
    (VC.pur (.binOp .eql t₀ x y p) type [(x, sx), (y, sy)] [Base.bool] (.bool (.var j)) k).den G Λ ε wx ws X := by
  refine den_pur [.bool (strEq D D')] ⟨⟨_, rfl⟩, trivial⟩ (fun ρ hρ w' _ => ?_) hk
  have e1 : ρ x = strV D := by have := hρ (x, sx.den ε) (by simp); rw [this, hx]
  have e2 : ρ y = strV D' := by have := hρ (y, sy.den ε) (by simp); rw [this, hy]
  simp only [SV.den, BE.den, hj, vbool]
  simp [execOp, bare, e1, e2, strV, strEq, go_sem, Result.andThen]
end

section
variable {G : Ctx} {Λ : Nat → List Value → World → Prop} {ε : List Value} {wx ws : World} {X : Nat → Prop} {k k' : VC}
/-- two ways that come together -/
theorem den_cut {i : Nat} {bs : List Base} {t' : List Nat} {fs' : Facts} {ka kb : VC} (I : List Value → World → Prop) (ha : ka.den G (LoopΛ i I Λ) ε wx ws X)
    (hb : ∀ l w', Fits bs l → I l w' → Kept G.M G.W0 w' → FactsAt (ε ++ l) w' fs' → kb.den G Λ (ε ++ l) w' w' (BlkIn (ε ++ l) t')) : (VC.cut i bs t' fs' ka kb).den G Λ ε wx ws X :=
  ⟨I, ha, allB_intro fun l hl w' hI hk hf => hb l w' hl hI hk hf⟩
end

/-- the cells of a block from a place on -/
theorem Mine.block {α : Type} {E : Enc α} {T : TypeId} {w : World} {g n c : Nat} {L : List α} (h : Mine E T w (.slice (some ⟨g, 0, none⟩) n c) L) (hc : 0 < c) :
    ∃ cur, w.heap[g]? = some (.cells cur T (0, 0)) ∧ n = L.length ∧ L.length ≤ c ∧ c ≤ maxLen ∧ cur.size = c * E.sz ∧ cur.toList.take (L.length * E.sz) = L.flatMap E.enc := by
  rcases h with ⟨hl, ⟨e, _⟩ | ⟨g', cap, cur, e, _, hh, h1, h2, h3, h4⟩⟩ | ⟨rfl, g', cur, ty, e, hh⟩
  · cases e
  · cases e
    exact ⟨cur, hh, rfl, h1, h2, h3, h4⟩
  · cases e
    omega
/-- copy into a part of a slice of one's own -/
theorem run_copyM {P : Program} {dT sT ty T : TypeId} (hu : P.underlying dT = some (.slice T)) (hs : sizeT P T = some 1) {w : World} {g N C : Nat} {Z : List Int} (ho : Mine byteE T w (.slice (some ⟨g, 0, none⟩) N C) Z)
    {d : Value} {o n c : Nat} (hd : d = .slice (some ⟨g, o, none⟩) n c ∨ (n = 0 ∧ ∃ a, d = .slice a n c)) (hon : o + n ≤ N) {src : Value} {D : List Int} (hS : Arr byteE w src D) :
    ∃ w', (Builtin.copy_ #[dT, sT] ty #[d, src]).run P w = .ok (.int .i64 (min D.length n : Nat)) w' ∧ Mine byteE T w' (.slice (some ⟨g, 0, none⟩) N C) (Z.take o ++ D.take (min D.length n) ++ Z.drop (o + min D.length n)) ∧ Kept (fun b => b = g) w w' := by
  have hs' : (P.info? T).map (·.size) = some 1 := hs
  obtain ⟨a, cs, rfl⟩ := hS.slice
  by_cases hm : min D.length n = 0
  · have hd' : ∃ a, d = .slice a n c := by rcases hd with rfl | ⟨_, h⟩; exact ⟨_, rfl⟩; exact h
    obtain ⟨a', rfl⟩ := hd'
    have hr := run_copy_none (P := P) w dT sT ty T a' a n c D.length cs hu hs' hm
    refine ⟨w, by rw [hr, hm]; rfl, ?_, Kept.refl _ _⟩
    rw [hm]
    simpa using ho
  · have hn : 0 < n := by omega
    have hDl : 0 < D.length := by omega
    have hd' : d = .slice (some ⟨g, o, none⟩) n c := by rcases hd with h | ⟨h, _⟩; exact h; omega
    subst hd'
    have hcap := ho.cap
    have hNl : N = Z.length := by obtain ⟨_, _, e⟩ := ho.slice; cases e; rfl
    have hC : 0 < C := by simp only [vcap] at hcap; omega
    obtain ⟨cur, hh, _, h1, h2, h3, h4⟩ := ho.block hC
    cases a with
    | none => obtain ⟨rfl, _⟩ := hS.none (by decide); simp at hDl
    | some a =>
      have e1 : byteE.sz = 1 := rfl
      rw [e1, Nat.mul_one] at h3 h4
      have hlen : ((D.take (min D.length n)).map (Value.int .u8)).length = Nat.min D.length n := by simp only [List.length_map, List.length_take]; show min (min D.length n) D.length = min D.length n; omega
      have hsrc : ∀ (j : Nat) v, ((D.take (min D.length n)).map (Value.int .u8))[j]? = some v → w.cell? (a.add j) = some v := by
        intro j v hj
        rw [List.getElem?_map, Option.map_eq_some_iff] at hj
        obtain ⟨x, hx, rfl⟩ := hj
        rw [List.getElem?_take] at hx
        split at hx
        · obtain ⟨ad, had, hc⟩ := Reads.cell hS j (.int .u8 x) (by rw [byte_flat, List.getElem?_map, hx]; rfl)
          cases had
          exact hc
        · cases hx
      have hlen' : ((D.take (min D.length n)).map (Value.int .u8)).length = min D.length n := hlen
      have hfit : o + ((D.take (min D.length n)).map (Value.int .u8)).length ≤ cur.size := by rw [hlen', h3]; omega
      have hr := run_copy_row (P := P) w dT sT ty T g o n c a D.length cs cur T _ hu hs' hh hlen hsrc hfit (by intro v hv; obtain ⟨x, _, rfl⟩ := List.mem_map.1 hv; rfl)
      refine ⟨_, hr.trans (by rw [hlen']; rfl), .inl ⟨flatMap_length byteE _, .inr ⟨g, C, _, ?_, Nat.zero_le _, setRow_heap w g cur _ T (0, 0) hh, ?_, h2, ?_, ?_⟩⟩, ⟨rfl, rfl, rfl, by rw [setRow_size]; exact Nat.le_refl _, fun b hb hne => setRow_other _ _ _ _ hne⟩⟩
      · congr 1
        simp only [List.length_append, List.length_take, List.length_drop]; omega
      · simp only [List.length_append, List.length_take, List.length_drop]; omega
      · have hcl : cur.toList.length = cur.size := Array.length_toList
        simp only [e1, Nat.mul_one, List.size_toArray, List.length_append, List.length_take, List.length_drop, List.length_map, hcl]
        omega
      · have hcl : cur.toList.length = cur.size := Array.length_toList
        have hz : cur.toList.take Z.length = Z.map (Value.int .u8) := by rw [h4, byte_flat]
        have hcd : cur.toList = Z.map (Value.int .u8) ++ cur.toList.drop Z.length := by rw [← hz, List.take_append_drop]
        rw [byte_flat, e1, Nat.mul_one, List.toList_toArray]
        simp only [List.map_append, List.map_take, List.map_drop]
        have hz2 : (Z.map (Value.int .u8)).length = Z.length := by simp
        have t1 : cur.toList.take o = (Z.map (Value.int .u8)).take o := by rw [hcd, List.take_append_of_le_length (by rw [hz2]; omega)]
        have t2 : cur.toList.drop (o + min D.length n) = (Z.map (Value.int .u8)).drop (o + min D.length n) ++ cur.toList.drop Z.length := by
          conv => lhs; rw [hcd]
          rw [List.drop_append_of_le_length (by rw [hz2]; omega)]
        rw [t1, t2, ← List.append_assoc]
        apply List.take_left'
        simp only [List.length_append, List.length_take, List.length_drop, List.length_map]

section
variable {G : Ctx} {Λ : Nat → List Value → World → Prop} {ε : List Value} {wx ws : World} {X : Nat → Prop} {k k' : VC}
theorem den_copyM {dT sT T type : TypeId} {x y : Operand} {sx sy : SV} {drawn : Bool} {j : Nat} {t t' un : List Nat} {fs : Facts} {cl : Call}
    (hcl : cl = { callee := .builtin .copy, args := #[x, y], argTypes := #[dT, sT] })
    (hu : G.P.underlying dT = some (.slice T)) (hs : sizeT G.P T = some 1) (g N C : Nat) (Z : List Int) (d : Value) (o n c : Nat) (hx : sx.den ε = d) (hd : d = .slice (some ⟨g, o, none⟩) n c ∨ (n = 0 ∧ ∃ a, d = .slice a n c)) (hon : o + n ≤ N) (src : Value) (D : List Int) (hy : sy.den ε = src)
    (hown : ∀ w, Shown G ε t fs wx w → Mine byteE T w (.slice (some ⟨g, 0, none⟩) N C) Z ∧ Arr byteE w src D)
    (hF : ∀ w, Shown G ε t fs wx w → FpOk G drawn X ε un w g)
    (hj : ∀ v, nth (ε ++ [v]) j = v)
    (hk : ∀ w w', Shown G ε t fs wx w → Mine byteE T w' (.slice (some ⟨g, 0, none⟩) N C) (Z.take o ++ D.take (min D.length n) ++ Z.drop (o + min D.length n)) → Kept (fun b => b = g) w w' →
      k.den G Λ (ε ++ [.int .i64 (min D.length n : Nat)]) w' (if drawn then ws else w') (if drawn then X else BlkIn ε t')) :
    (VC.gen (.call cl) type [(x, sx), (y, sy)] [Base.int .i64] (.int .i64 (.var j)) [] drawn t t' un fs k).den G Λ ε wx ws X := by
  subst hcl
  refine den_genF (fun b => b = g) (fun w l w' => l = [.int .i64 (min D.length n : Nat)] ∧ Mine byteE T w' (.slice (some ⟨g, 0, none⟩) N C) (Z.take o ++ D.take (min D.length n) ++ Z.drop (o + min D.length n))) (fun w hw b hb _ => by subst hb; exact hF w hw) ?_ ?_
  · intro w hw ρ hρ
    have e1 : ρ x = d := by have := hρ (x, sx.den ε) (by simp); rw [this, hx]
    have e2 : ρ y = src := by have := hρ (y, sy.den ε) (by simp); rw [this, hy]
    obtain ⟨w', hr, hm, hk'⟩ := run_copyM (ty := type) (sT := sT) hu hs (hown w hw).1 hd hon (hown w hw).2
    refine .inl ⟨.int .i64 (min D.length n : Nat), w', .inl ?_, ⟨[.int .i64 (min D.length n : Nat)], ⟨⟨_, rfl⟩, trivial⟩, ?_, rfl, hm⟩, hk'⟩
    · simp [execOp, bare, resolve, invoke, builtin, e1, e2, hr]
    · simp only [SV.den, IE.den, hj, vint]
  · rintro w l w' hw _ ⟨rfl, h2⟩ hs'
    exact hk w w' hw h2 hs'
end
end Go.Sx
