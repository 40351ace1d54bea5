/- What Split returns. No conditions beyond those that each theorem names. -/
import Derived.Test.YtngemhmjpphpaaaEA
set_option maxRecDepth 100000
set_option maxHeartbeats 2000000
set_option linter.unusedVariables false
set_option linter.unusedSimpArgs false
namespace Go.Proofs.Ytngemhmjpphpaaa
open Go.Sx

def spE (z m : Int) (x : Bool) (t : Int) (fi : Bool) (n : Int) (act : Bool) (A B : Int) : Int :=
  if lOk z m x t fi n act then (if exE A (lenA z x (mvd m act) n) = 0 then exE B (lenB x (mvd m act) n) else exE A (lenA z x (mvd m act) n)) else 2
def pad (m : Nat) (D : List Int) : List Int := D ++ List.replicate (m - D.length) 0
/-- the block at an index of the buffers -/
def blkAt (z m mv : Nat) (x : Bool) (D M : List Int) (i : Nat) : Bl :=
  if x then ((D.drop (i * (z + mv))).take z, pad m ((D.drop (i * (z + mv) + z)).take mv)) else ((D.drop (i * z)).take z, pad m ((M.drop (i * mv)).take mv))
def splL (z m : Int) (x : Bool) (t : Int) (fi : Bool) (n : Int) (act : Bool) (D M : List Int) : List Bl :=
  if spE z m x t fi n act D.length M.length = 0 then (List.range n.toNat).map (blkAt z.toNat m.toNat (mvd m act).toNat x D M) else []
/-- a result of Split -/
def SR (lo : Nat) (z m : Int) (x : Bool) (t : Int) (fi : Bool) (n : Int) (act : Bool) (D M : List Int) (v : Value) (w : World) : Prop :=
  ∃ s LV, v = .tuple #[s, .int .i64 (spE z m x t fi n act D.length M.length)] ∧ Blks lo w s LV (splL z m x t fi n act D M)
theorem blks_nil {lo : Nat} {w : World} : Blks lo w (.slice none 0 0) [] [] := ⟨given_nil.1, rfl, fun ad had => (by cases had), fun i p q hp hq => by simp at hp⟩
theorem sr_no {lo : Nat} {z m : Int} {x : Bool} {t : Int} {fi : Bool} {n : Int} {act : Bool} {D M : List Int} {w : World} (h : spE z m x t fi n act D.length M.length ≠ 0) (e : Int) (he : e = spE z m x t fi n act D.length M.length) : SR lo z m x t fi n act D M (.tuple #[.slice none 0 0, .int .i64 e]) w := by
  subst he
  refine ⟨_, [], rfl, ?_⟩
  unfold splL
  rw [if_neg h]
  exact blks_nil

/-- between two blocks -/
structure JJ (lo : Nat) (p1 p2 p3 : Nat) (f1 f2 : Value) (lay : List Value) (w : World) : Prop where
  h1 : PtsTo w (pt p1) [f1]
  h2 : PtsTo w (pt p2) lay
  h3 : PtsTo w (pt p3) [f2]
theorem JJ.kept {lo : Nat} {p1 p2 p3 : Nat} {f1 f2 : Value} {lay : List Value} {w w' : World} {M : Nat → Prop} (h : JJ lo p1 p2 p3 f1 f2 lay w) (hk : Kept M w w') (hM : ∀ b, M b → b ≠ p1 ∧ b ≠ p2 ∧ b ≠ p3) : JJ lo p1 p2 p3 f1 f2 lay w' :=
  ⟨h.h1.kept hk fun b hb hm => by have e : p1 = b := Option.some.inj hb; exact (hM b hm).1 e.symm,
   h.h2.kept hk fun b hb hm => by have e : p2 = b := Option.some.inj hb; exact (hM b hm).2.1 e.symm,
   h.h3.kept hk fun b hb hm => by have e : p3 = b := Option.some.inj hb; exact (hM b hm).2.2 e.symm⟩
theorem go44 : goFunc Try.prog 44 = true := by kernel_rfl

/-- all blocks of the buffers: metadata with the data -/
theorem c43e (n z m mv : Nat) (x : Bool) (t : Int) (fi : Bool) (lo p1 p2 p3 pd : Nat) (D M : List Int) (w : World) (hn : n ≤ 65536) (hm : m ≤ 64) (hz : z ≤ 4096) (hmv : mv ≤ m) (hlen : D.length = n * (z + mv))
    (hj : JJ lo p1 p2 p3 (.func (.func 53) #[] #[pt pd]) (.func (.func 53) #[] #[pt pd]) [.int .i64 z, .int .i64 m, .bool x, .int .i64 t, .bool fi, .int .i64 mv] w)
    (hp : p1 < w.heap.size ∧ p2 < w.heap.size ∧ p3 < w.heap.size) (hd : Src lo pd w D) (hlo : lo ≤ pd) (hpd : pd < w.heap.size ∧ pd ≠ p1 ∧ pd ≠ p2 ∧ pd ≠ p3) (hx : x = true) :
    Runs Try.prog 43 [.int .i64 n, .func (.func 44) #[] #[pt p1, pt p2, pt p3]] w (fun b => b = pd) (fun v w' => ∃ LV, BlksNew w.heap.size w' v LV ((List.range n).map (blkAt z m mv x D M))) := by
  subst hx
  refine (c43 n 44 [pt p1, pt p2, pt p3] _ (blkAt z m mv true D M) (fun k w' => JJ lo p1 p2 p3 (.func (.func 53) #[] #[pt pd]) (.func (.func 53) #[] #[pt pd]) [.int .i64 z, .int .i64 m, .bool true, .int .i64 t, .bool fi, .int .i64 mv] w' ∧ Src lo pd w' (D.drop (k * (z + mv)))) (fun b => b = pd) w hn rfl go44 (fun b hb => by rw [hb]; exact hpd.1) ⟨hj, by simpa using hd⟩ ?_ ?_).mono (fun v w' ⟨LV, h, _⟩ _ => ⟨LV, h⟩) (fun _ _ h => h)
  · rintro k w1 w2 N ⟨h1, h2⟩ hk hN
    exact ⟨h1.kept hk fun b hb => by have := hN b hb; omega, h2.kept hk fun b hb => by have := hN b hb; omega⟩
  rintro k w1 hkn ⟨hj1, hs1⟩ hw1
  have hkl : k * (z + mv) + (z + mv) ≤ D.length := by rw [hlen, ← Nat.succ_mul]; exact Nat.mul_le_mul_right _ hkn
  have dl : (D.drop (k * (z + mv))).length = D.length - k * (z + mv) := List.length_drop
  have hlo1 : lo ≤ w1.heap.size := by omega
  have key := c44 p1 p2 p3 (.func (.func 53) #[] #[pt pd]) (.func (.func 53) #[] #[pt pd]) 53 53 [pt pd] [pt pd] z m mv true t fi lo (fun b => b = pd) ((D.drop (k * (z + mv))).take z) ((D.drop (k * (z + mv) + z)).take mv)
    (fun w' => JJ lo p1 p2 p3 (.func (.func 53) #[] #[pt pd]) (.func (.func 53) #[] #[pt pd]) [.int .i64 z, .int .i64 m, .bool true, .int .i64 t, .bool fi, .int .i64 mv] w' ∧ Src lo pd w' (D.drop (k * (z + mv))))
    (fun w' => JJ lo p1 p2 p3 (.func (.func 53) #[] #[pt pd]) (.func (.func 53) #[] #[pt pd]) [.int .i64 z, .int .i64 m, .bool true, .int .i64 t, .bool fi, .int .i64 mv] w' ∧ Src lo pd w' (D.drop (k * (z + mv) + z)))
    (fun w' => JJ lo p1 p2 p3 (.func (.func 53) #[] #[pt pd]) (.func (.func 53) #[] #[pt pd]) [.int .i64 z, .int .i64 m, .bool true, .int .i64 t, .bool fi, .int .i64 mv] w' ∧ Src lo pd w' (D.drop ((k + 1) * (z + mv))))
    k w1 hj1.h1 hj1.h2 hj1.h3 rfl rfl go53 go53 (fun b hb => by subst hb; exact ⟨hlo, Nat.lt_of_lt_of_le hpd.1 hw1, hpd.2⟩) hlo1 ?_ ?_ ?_ ?_ ?_ hm (by rw [List.length_take]; omega) (by rw [List.length_take]; omega) ⟨hj1, hs1⟩
  · refine key.mono (fun v w2 ⟨q, hv, hq, hj2⟩ _ => ⟨q, hv, ?_, hj2⟩) (fun _ _ h => h)
    have e : blkAt z m mv true D M k = ((D.drop (k * (z + mv))).take z, (D.drop (k * (z + mv) + z)).take mv ++ List.replicate (m - ((D.drop (k * (z + mv) + z)).take mv).length) 0) := rfl
    rw [e]
    exact hq
  · rintro w2 ⟨hj2, hs2⟩
    refine (c53 lo pd z _ w2 hs2 hlo (by omega)).mono (fun v w3 ⟨s, hv, ho, hs3⟩ hk3 => ⟨s, hv, ho, hj2.kept hk3 (fun b hb => by subst hb; exact hpd.2), ?_⟩) (fun _ _ h => h)
    rw [List.drop_drop] at hs3
    exact hs3
  · rintro w2 ⟨hj2, hs2⟩
    refine (c53 lo pd mv _ w2 hs2 hlo (by rw [List.length_drop]; omega)).mono (fun v w3 ⟨s, hv, ho, hs3⟩ hk3 => ⟨s, hv, ho, hj2.kept hk3 (fun b hb => by subst hb; exact hpd.2), ?_⟩) (fun _ _ h => h)
    rw [List.drop_drop] at hs3
    rw [show (k + 1) * (z + mv) = k * (z + mv) + z + mv by rw [Nat.succ_mul]; omega]
    exact hs3
  all_goals
    rintro w2 w3 N ⟨h1, h2⟩ hk hN
    exact ⟨h1.kept hk fun b hb => by have := hN b hb; omega, h2.kept hk fun b hb => by have := hN b hb; omega⟩
/-- all blocks of the buffers: metadata apart -/
theorem c43s (n z m mv : Nat) (x : Bool) (t : Int) (fi : Bool) (lo p1 p2 p3 pd pm : Nat) (D M : List Int) (w : World) (hn : n ≤ 65536) (hm : m ≤ 64) (hz : z ≤ 4096) (hmv : mv ≤ m) (hlen : D.length = n * z) (hlenM : M.length = n * mv)
    (hj : JJ lo p1 p2 p3 (.func (.func 53) #[] #[pt pd]) (.func (.func 53) #[] #[pt pm]) [.int .i64 z, .int .i64 m, .bool x, .int .i64 t, .bool fi, .int .i64 mv] w)
    (hp : p1 < w.heap.size ∧ p2 < w.heap.size ∧ p3 < w.heap.size) (hd : Src lo pd w D) (hdm : Src lo pm w M) (hlo : lo ≤ pd ∧ lo ≤ pm) (hpd : pd < w.heap.size ∧ pd ≠ p1 ∧ pd ≠ p2 ∧ pd ≠ p3) (hpm : pm < w.heap.size ∧ pm ≠ p1 ∧ pm ≠ p2 ∧ pm ≠ p3) (hne : pd ≠ pm) (hx : x = false) :
    Runs Try.prog 43 [.int .i64 n, .func (.func 44) #[] #[pt p1, pt p2, pt p3]] w (fun b => b = pd ∨ b = pm) (fun v w' => ∃ LV, BlksNew w.heap.size w' v LV ((List.range n).map (blkAt z m mv x D M))) := by
  subst hx
  refine (c43 n 44 [pt p1, pt p2, pt p3] _ (blkAt z m mv false D M) (fun k w' => JJ lo p1 p2 p3 (.func (.func 53) #[] #[pt pd]) (.func (.func 53) #[] #[pt pm]) [.int .i64 z, .int .i64 m, .bool false, .int .i64 t, .bool fi, .int .i64 mv] w' ∧ Src lo pd w' (D.drop (k * z)) ∧ Src lo pm w' (M.drop (k * mv))) (fun b => b = pd ∨ b = pm) w hn rfl go44 (fun b hb => by rcases hb with rfl | rfl; exact hpd.1; exact hpm.1) ⟨hj, by simpa using hd, by simpa using hdm⟩ ?_ ?_).mono (fun v w' ⟨LV, h, _⟩ _ => ⟨LV, h⟩) (fun _ _ h => h)
  · rintro k w1 w2 N ⟨h1, h2, h3⟩ hk hN
    exact ⟨h1.kept hk fun b hb => by have := hN b hb; omega, h2.kept hk fun b hb => by have := hN b hb; omega, h3.kept hk fun b hb => by have := hN b hb; omega⟩
  rintro k w1 hkn ⟨hj1, hs1, hm1⟩ hw1
  have hkl : k * z + z ≤ D.length := by rw [hlen, ← Nat.succ_mul]; exact Nat.mul_le_mul_right _ hkn
  have hkm : k * mv + mv ≤ M.length := by rw [hlenM, ← Nat.succ_mul]; exact Nat.mul_le_mul_right _ hkn
  have dl : (D.drop (k * z)).length = D.length - k * z := List.length_drop
  have dm : (M.drop (k * mv)).length = M.length - k * mv := List.length_drop
  have hlo1 : lo ≤ w1.heap.size := by omega
  have key := c44 p1 p2 p3 (.func (.func 53) #[] #[pt pd]) (.func (.func 53) #[] #[pt pm]) 53 53 [pt pd] [pt pm] z m mv false t fi lo (fun b => b = pd ∨ b = pm) ((D.drop (k * z)).take z) ((M.drop (k * mv)).take mv)
    (fun w' => JJ lo p1 p2 p3 (.func (.func 53) #[] #[pt pd]) (.func (.func 53) #[] #[pt pm]) [.int .i64 z, .int .i64 m, .bool false, .int .i64 t, .bool fi, .int .i64 mv] w' ∧ Src lo pd w' (D.drop (k * z)) ∧ Src lo pm w' (M.drop (k * mv)))
    (fun w' => JJ lo p1 p2 p3 (.func (.func 53) #[] #[pt pd]) (.func (.func 53) #[] #[pt pm]) [.int .i64 z, .int .i64 m, .bool false, .int .i64 t, .bool fi, .int .i64 mv] w' ∧ Src lo pd w' (D.drop ((k + 1) * z)) ∧ Src lo pm w' (M.drop (k * mv)))
    (fun w' => JJ lo p1 p2 p3 (.func (.func 53) #[] #[pt pd]) (.func (.func 53) #[] #[pt pm]) [.int .i64 z, .int .i64 m, .bool false, .int .i64 t, .bool fi, .int .i64 mv] w' ∧ Src lo pd w' (D.drop ((k + 1) * z)) ∧ Src lo pm w' (M.drop ((k + 1) * mv)))
    k w1 hj1.h1 hj1.h2 hj1.h3 rfl rfl go53 go53 (fun b hb => by rcases hb with rfl | rfl; exact ⟨hlo.1, Nat.lt_of_lt_of_le hpd.1 hw1, hpd.2⟩; exact ⟨hlo.2, Nat.lt_of_lt_of_le hpm.1 hw1, hpm.2⟩) hlo1 ?_ ?_ ?_ ?_ ?_ hm (by rw [List.length_take]; omega) (by rw [List.length_take]; omega) ⟨hj1, hs1, hm1⟩
  · refine key.mono (fun v w2 ⟨q, hv, hq, hj2⟩ _ => ⟨q, hv, ?_, hj2⟩) (fun _ _ h => h)
    have e : blkAt z m mv false D M k = ((D.drop (k * z)).take z, (M.drop (k * mv)).take mv ++ List.replicate (m - ((M.drop (k * mv)).take mv).length) 0) := rfl
    rw [e]
    exact hq
  · rintro w2 ⟨hj2, hs2, hm2⟩
    refine (c53 lo pd z _ w2 hs2 hlo.1 (by omega)).mono (fun v w3 ⟨s, hv, ho, hs3⟩ hk3 => ⟨s, hv, ho, hj2.kept hk3 (fun b hb => by subst hb; exact hpd.2), ?_, hm2.kept hk3 (fun b hb => by subst hb; exact ⟨hlo.1, hne⟩)⟩) (fun _ _ h => .inl h)
    rw [List.drop_drop] at hs3
    rw [Nat.succ_mul]
    exact hs3
  · rintro w2 ⟨hj2, hs2, hm2⟩
    refine (c53 lo pm mv _ w2 hm2 hlo.2 (by omega)).mono (fun v w3 ⟨s, hv, ho, hs3⟩ hk3 => ⟨s, hv, ho, hj2.kept hk3 (fun b hb => by subst hb; exact hpm.2), hs2.kept hk3 (fun b hb => by subst hb; exact ⟨hlo.2, fun e => hne e.symm⟩), ?_⟩) (fun _ _ h => .inr h)
    rw [List.drop_drop] at hs3
    rw [show (k + 1) * mv = k * mv + mv by rw [Nat.succ_mul]]
    exact hs3
  all_goals
    rintro w2 w3 N ⟨h1, h2, h3⟩ hk hN
    exact ⟨h1.kept hk fun b hb => by have := hN b hb; omega, h2.kept hk fun b hb => by have := hN b hb; omega, h3.kept hk fun b hb => by have := hN b hb; omega⟩
end Go.Proofs.Ytngemhmjpphpaaa
