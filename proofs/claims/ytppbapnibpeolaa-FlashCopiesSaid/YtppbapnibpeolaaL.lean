/- Calls of a flash device's methods, as rules. No conditions beyond those that each theorem names. -/
import Derived.Test.YtppbapnibpeolaaK
set_option maxRecDepth 100000
set_option maxHeartbeats 2000000
set_option linter.unusedVariables false
set_option linter.unusedSimpArgs false
namespace Go.Proofs.Ytppbapnibpeolaa
open Go.Sx

/-- a slice of bytes that is not the device's -/
structure Lv (w : World) (S : Nat → Prop) (v : Value) (D : List Int) : Prop where
  g : Given byteE w v D
  out : ∀ ad, vaddr v = some ad → ¬ S ad.block
section
variable {w w' : World} {S T S' T' M : Nat → Prop} {v : Value} {D : List Int}
theorem Lv.same (h : Lv w S v D) (hk : Same w w') : Lv w' S v D := ⟨h.g.same hk, h.out⟩
theorem Lv.kept (h : Lv w S v D) (hk : Kept S w w') : Lv w' S v D := ⟨h.g.kept hk h.out, h.out⟩
theorem Lv.next (h : Lv w S v D) (hk : Kept S w w') (hn : Nxt w S T S' T') : Lv w' S' v D := ⟨h.g.kept hk h.out, fun ad had hs => by
  rcases hn.dn _ hs with e | e
  · exact h.out ad had e
  · have := h.g.2.2.2 ad had; omega⟩
theorem Lv.mine {T : TypeId} (h : Mine byteE T w v D) (ho : ∀ g, v.ownBlock = some g → ¬ S g) : Lv w S v D := ⟨h.given, fun ad had => ho _ (h.own had)⟩
/-- a block that is not the device's -/
structure Bk (w : World) (S : Nat → Prop) (b : Nat) : Prop where
  lt : b < w.heap.size
  no : ¬ S b
theorem Bk.kept {b : Nat} (h : Bk w S b) (hk : Kept M w w') : Bk w' S b := ⟨Nat.lt_of_lt_of_le h.lt hk.size, h.no⟩
theorem Bk.next {b : Nat} (h : Bk w S b) (hk : Kept M w w') (hn : Nxt w S T S' T') : Bk w' S' b := ⟨Nat.lt_of_lt_of_le h.lt hk.size, fun hs => by
  rcases hn.dn _ hs with e | e
  · exact h.no e
  · have := h.lt; omega⟩
end
section
variable {G : Ctx} {Λ : Nat → List Value → World → Prop} {ε : List Value} {wx ws : World} {X : Nat → Prop} {k k' : VC}
variable {S T : Nat → Prop} {b mf : Nat} {sB : Value} {Lb : List Bv} {d : Dv}
variable {args : List SV} {j : Nat} {drawn : Bool} {t t' un : List Nat} {fs : Facts}
theorem den_m19 (hP : G.P = Try.prog) (B A : Int) (sa sb : Value) (D1 D2 : List Int) (e : Int) (d' : Dv) (ha : denL ε args = [pt b, .int .i64 B, .int .i64 A, sa, sb]) (hj : ∀ v, nth (ε ++ [v]) j = v)
    (H : ∀ w, Shown G ε t fs wx w → DevM w S T b mf sB Lb d) (hw : Wf d) (h1 : ∀ w, Shown G ε t fs wx w → Src w sa D1) (h2 : ∀ w, Shown G ε t fs wx w → Src w sb D2) (hn1 : d.n ≤ 1000000000) (hl1 : D1.length ≤ 10000) (hl2 : D2.length ≤ 10000) (he : d.prgE B A D1 D2 = e) (hd : d.prgD B A D1 D2 = d')
    (hF : ∀ w, Shown G ε t fs wx w → ∀ y, S y → y < w.heap.size → FpOk G drawn X ε un w y)
    (hk : ∀ w w' Lb', Shown G ε t fs wx w → Kept S w w' → DevM w' S T b mf sB Lb' d' → k.den G Λ (ε ++ [.int .i64 e]) w' (if drawn then ws else w') (if drawn then X else BlkIn ε t')) :
    (VC.call 19 args [.int .i64] (.int .i64 (.var j)) [] drawn t t' un fs k).den G Λ ε wx ws X := by
  refine den_callM (fun _ => S) (fun w l w' => l = [.int .i64 e] ∧ ∃ Lb', DevM w' S T b mf sB Lb' d') hF (fun w hs => ?_) (fun w l w' hs hfl hR hk' => ?_)
  · rw [ha, hP]
    exact (c19 B A sa sb D1 D2 w (H w hs) hw (h1 w hs) (h2 w hs) hn1 hl1 hl2).mono (fun r w' hr _ => ⟨[.int .i64 e], ⟨⟨_, rfl⟩, trivial⟩, by rw [hr.1, he]; simp only [SV.den, IE.den, hj, vint], ⟨rfl, by rw [← hd]; exact hr.2⟩, trivial⟩) (fun _ _ h => h)
  · obtain ⟨rfl, Lb', hD⟩ := hR
    exact hk w w' Lb' hs hk' hD
theorem den_m20 (hP : G.P = Try.prog) (B : Int) (e : Int) (d' : Dv) (ha : denL ε args = [pt b, .int .i64 B]) (hj : ∀ v, nth (ε ++ [v]) j = v)
    (H : ∀ w, Shown G ε t fs wx w → DevM w S T b mf sB Lb d) (hw : Wf d) (hn1 : d.n ≤ 1000000000) (he : d.ersE B = e) (hd : d.ersD B = d')
    (hF : ∀ w, Shown G ε t fs wx w → ∀ y, S y → y < w.heap.size → FpOk G drawn X ε un w y)
    (hk : ∀ w w' S' T' Lb', Shown G ε t fs wx w → Kept S w w' → Nxt w S T S' T' → DevM w' S' T' b mf sB Lb' d' → k.den G Λ (ε ++ [.int .i64 e]) w' (if drawn then ws else w') (if drawn then X else BlkIn ε t')) :
    (VC.call 20 args [.int .i64] (.int .i64 (.var j)) [] drawn t t' un fs k).den G Λ ε wx ws X := by
  refine den_callM (fun _ => S) (fun w l w' => l = [.int .i64 e] ∧ ∃ S' T' Lb', Nxt w S T S' T' ∧ DevM w' S' T' b mf sB Lb' d') hF (fun w hs => ?_) (fun w l w' hs hfl hR hk' => ?_)
  · rw [ha, hP]
    exact (c20 B w (H w hs) hw hn1).mono (fun r w' hr _ => ⟨[.int .i64 e], ⟨⟨_, rfl⟩, trivial⟩, by rw [hr.1, he]; simp only [SV.den, IE.den, hj, vint], ⟨rfl, by rw [← hd]; exact hr.2⟩, trivial⟩) (fun _ _ h => h)
  · obtain ⟨rfl, S', T', Lb', hn, hD⟩ := hR
    exact hk w w' S' T' Lb' hs hk' hn hD
theorem den_m21 (hP : G.P = Try.prog) (o c : Int) (e : Int) (d' : Dv) (ha : denL ε args = [pt b, .int .i64 o, .int .i64 c]) (hj : ∀ v, nth (ε ++ [v]) j = v)
    (H : ∀ w, Shown G ε t fs wx w → DevM w S T b mf sB Lb d) (hw : Wf d) (he : d.cutE o c = e) (hd : d.cutD o c = d')
    (hF : ∀ w, Shown G ε t fs wx w → ∀ y, S y → y < w.heap.size → FpOk G drawn X ε un w y)
    (hk : ∀ w w', Shown G ε t fs wx w → Kept S w w' → DevM w' S T b mf sB Lb d' → k.den G Λ (ε ++ [.int .i64 e]) w' (if drawn then ws else w') (if drawn then X else BlkIn ε t')) :
    (VC.call 21 args [.int .i64] (.int .i64 (.var j)) [] drawn t t' un fs k).den G Λ ε wx ws X := by
  refine den_callM (fun _ => S) (fun w l w' => l = [.int .i64 e] ∧ DevM w' S T b mf sB Lb d') hF (fun w hs => ?_) (fun w l w' hs hfl hR hk' => ?_)
  · rw [ha, hP]
    exact (c21 w o c (H w hs) hw).mono (fun r w' hr _ => ⟨[.int .i64 e], ⟨⟨_, rfl⟩, trivial⟩, by rw [hr.1, he]; simp only [SV.den, IE.den, hj, vint], ⟨rfl, by rw [← hd]; exact hr.2⟩, trivial⟩) (fun y _ e => by subst e; exact (H w hs).Sb)
  · exact hR.1 ▸ hk w w' hs hk' hR.2
theorem den_m22 (hP : G.P = Try.prog) (e : Int) (d' : Dv) (ha : denL ε args = [pt b]) (hj : ∀ v, nth (ε ++ [v]) j = v)
    (H : ∀ w, Shown G ε t fs wx w → DevM w S T b mf sB Lb d) (hw : Wf d) (he : (0 : Int) = e) (hd : d.rst = d')
    (hF : ∀ w, Shown G ε t fs wx w → ∀ y, S y → y < w.heap.size → FpOk G drawn X ε un w y)
    (hk : ∀ w w', Shown G ε t fs wx w → Kept S w w' → DevM w' S T b mf sB Lb d' → k.den G Λ (ε ++ [.int .i64 e]) w' (if drawn then ws else w') (if drawn then X else BlkIn ε t')) :
    (VC.call 22 args [.int .i64] (.int .i64 (.var j)) [] drawn t t' un fs k).den G Λ ε wx ws X := by
  refine den_callM (fun _ => S) (fun w l w' => l = [.int .i64 e] ∧ DevM w' S T b mf sB Lb d') hF (fun w hs => ?_) (fun w l w' hs hfl hR hk' => ?_)
  · rw [ha, hP]
    exact (c22 w (H w hs) hw).mono (fun r w' hr _ => ⟨[.int .i64 e], ⟨⟨_, rfl⟩, trivial⟩, by rw [hr.1, he]; simp only [SV.den, IE.den, hj, vint], ⟨rfl, by rw [← hd]; exact hr.2⟩, trivial⟩) (fun y _ e => by subst e; exact (H w hs).Sb)
  · exact hR.1 ▸ hk w w' hs hk' hR.2
theorem den_m13 (hP : G.P = Try.prog) {j1 j2 j3 : Nat} (B A : Int) (e : Int) (Da Db : List Int) (ha : denL ε args = [pt b, .int .i64 B, .int .i64 A]) (hj : ∀ v1 v2 v3, nth (ε ++ [v1, v2, v3]) j1 = v1 ∧ nth (ε ++ [v1, v2, v3]) j2 = v2 ∧ nth (ε ++ [v1, v2, v3]) j3 = v3)
    (H : ∀ w, Shown G ε t fs wx w → DevM w S T b mf sB Lb d) (hw : Wf d) (he : d.rdE B A = e) (h1 : d.rdA B A = Da) (h2 : d.rdB B A = Db)
    (hk : ∀ w va vb w', Shown G ε t fs wx w → Same w w' → Mine byteE 5 w' va Da → Mine byteE 5 w' vb Db → (∀ g, va.ownBlock = some g → w.heap.size ≤ g) → (∀ g, vb.ownBlock = some g → w.heap.size ≤ g ∧ va.ownBlock ≠ some g) → k.den G Λ (ε ++ [va, vb, .int .i64 e]) w' (if drawn then ws else w') (if drawn then X else BlkIn ε t')) :
    (VC.call 13 args [.slice, .slice, .int .i64] (.tuple [.var j1, .var j2, .int .i64 (.var j3)]) [] drawn t t' un fs k).den G Λ ε wx ws X := by
  refine den_callR (fun w l w' => ∃ va vb, l = [va, vb, .int .i64 e] ∧ Mine byteE 5 w' va Da ∧ Mine byteE 5 w' vb Db ∧ (∀ g, va.ownBlock = some g → w.heap.size ≤ g) ∧ (∀ g, vb.ownBlock = some g → w.heap.size ≤ g ∧ va.ownBlock ≠ some g)) (fun w hs => ?_) (fun w l w' hs hfl hR hk' => ?_)
  · rw [ha, hP]
    refine (c13 w B A (H w hs) hw).mono fun v w' ⟨va, vb, q1, q2, q3, q4, q5⟩ => ?_
    obtain ⟨x1, y1, e1⟩ := q2.slice
    obtain ⟨x2, y2, e2⟩ := q3.slice
    obtain ⟨r1, r2, r3⟩ := hj va vb (.int .i64 e)
    rw [h1] at q2
    rw [h2] at q3
    exact ⟨[va, vb, .int .i64 e], ⟨⟨_, _, _, e1⟩, ⟨_, _, _, e2⟩, ⟨_, rfl⟩, trivial⟩, by rw [q1, he]; simp only [SV.den, IE.den, denL, r1, r2, r3, vint], va, vb, rfl, q2, q3, q4, q5⟩
  · obtain ⟨va, vb, rfl, q2, q3, q4, q5⟩ := hR
    exact hk w va vb w' hs hk' q2 q3 q4 q5
theorem den_m18 (hP : G.P = Try.prog) (x : Int) (ha : denL ε args = [.int .i64 x]) (hj : ∀ v, nth (ε ++ [v]) j = v) (hk : ∀ w w', Shown G ε t fs wx w → Same w w' → k.den G Λ (ε ++ [.int .i64 x]) w' (if drawn then ws else w') (if drawn then X else BlkIn ε t')) :
    (VC.call 18 args [.int .i64] (.int .i64 (.var j)) [] drawn t t' un fs k).den G Λ ε wx ws X :=
  den_call_int (x := x) (fun w _ => by rw [ha, hP]; exact c18 x w) (hj _) hk
theorem den_m30 (hP : G.P = Try.prog) (s s' : Value) (D D' : List Int) (r : Bool) (hr : strEq D D' = r) (ha : denL ε args = [s, s']) (hj : ∀ v, nth (ε ++ [v]) j = v) (h1 : ∀ w, Shown G ε t fs wx w → Src w s D) (h2 : ∀ w, Shown G ε t fs wx w → Src w s' D') (hk : ∀ w w', Shown G ε t fs wx w → Same w w' → k.den G Λ (ε ++ [.bool r]) w' (if drawn then ws else w') (if drawn then X else BlkIn ε t')) :
    (VC.call 30 args [.bool] (.bool (.var j)) [] drawn t t' un fs k).den G Λ ε wx ws X :=
  den_call_bool (b := r) (fun w hs => by rw [ha, hP, ← hr]; exact c30 s s' D D' w (h1 w hs) (h2 w hs)) (hj _) hk
theorem den_m32 (hP : G.P = Try.prog) (n : Nat) (x : Int) (hn : n ≤ 1000) (ha : denL ε args = [.int .i64 n, .int .u8 x]) (hj : ∀ v, nth (ε ++ [v]) j = v)
    (hk : ∀ w v w', Shown G ε t fs wx w → Same w w' → Mine byteE 5 w' v (List.replicate n x) → (∀ g, v.ownBlock = some g → w.heap.size ≤ g) → k.den G Λ (ε ++ [v]) w' (if drawn then ws else w') (if drawn then X else BlkIn ε t')) :
    (VC.call 32 args [.slice] (.var j) [] drawn t t' un fs k).den G Λ ε wx ws X := by
  refine den_callR (fun w l w' => ∃ v, l = [v] ∧ Mine byteE 5 w' v (List.replicate n x) ∧ ∀ g, v.ownBlock = some g → w.heap.size ≤ g) (fun w hs => ?_) (fun w l w' hs hfl hR hk' => ?_)
  · rw [ha, hP]
    refine (c32 n x w hn).mono fun v w' ⟨q1, q2⟩ => ?_
    obtain ⟨va, vc, hv⟩ := q1.slice
    exact ⟨[v], ⟨⟨_, _, _, hv⟩, trivial⟩, by simp only [SV.den, hj], v, rfl, q1, q2⟩
  · obtain ⟨v, rfl, q1, q2⟩ := hR
    exact hk w v w' hs hk' q1 q2
theorem den_m23 (hP : G.P = Try.prog) (r : Bool) (hr : (!d.off) = r) (ha : denL ε args = [pt b]) (hj : ∀ v, nth (ε ++ [v]) j = v) (H : ∀ w, Shown G ε t fs wx w → DevM w S T b mf sB Lb d) (hw : Wf d)
    (hk : ∀ w w', Shown G ε t fs wx w → Same w w' → k.den G Λ (ε ++ [.bool r]) w' (if drawn then ws else w') (if drawn then X else BlkIn ε t')) :
    (VC.call 23 args [.bool] (.bool (.var j)) [] drawn t t' un fs k).den G Λ ε wx ws X :=
  den_call_bool (b := r) (fun w hs => by rw [ha, hP, ← hr]; exact c23 w (H w hs) hw) (hj _) hk
theorem den_m25 (hP : G.P = Try.prog) (r : Int) (hr : (d.n) = r) (ha : denL ε args = [pt b]) (hj : ∀ v, nth (ε ++ [v]) j = v) (H : ∀ w, Shown G ε t fs wx w → DevM w S T b mf sB Lb d) (hw : Wf d)
    (hk : ∀ w w', Shown G ε t fs wx w → Same w w' → k.den G Λ (ε ++ [.int .i64 r]) w' (if drawn then ws else w') (if drawn then X else BlkIn ε t')) :
    (VC.call 25 args [.int .i64] (.int .i64 (.var j)) [] drawn t t' un fs k).den G Λ ε wx ws X :=
  den_call_int (x := r) (fun w hs => by rw [ha, hP, ← hr]; exact c25 w (H w hs) hw) (hj _) hk
theorem den_m26 (hP : G.P = Try.prog) (B : Int) (r : Int) (hr : (d.next B) = r) (ha : denL ε args = [pt b, .int .i64 B]) (hj : ∀ v, nth (ε ++ [v]) j = v) (H : ∀ w, Shown G ε t fs wx w → DevM w S T b mf sB Lb d) (hw : Wf d)
    (hk : ∀ w w', Shown G ε t fs wx w → Same w w' → k.den G Λ (ε ++ [.int .i64 r]) w' (if drawn then ws else w') (if drawn then X else BlkIn ε t')) :
    (VC.call 26 args [.int .i64] (.int .i64 (.var j)) [] drawn t t' un fs k).den G Λ ε wx ws X :=
  den_call_int (x := r) (fun w hs => by rw [ha, hP, ← hr]; exact c26 w B (H w hs) hw) (hj _) hk
theorem den_m28 (hP : G.P = Try.prog) (B A : Int) (r : Int) (hr : (d.state B A) = r) (ha : denL ε args = [pt b, .int .i64 B, .int .i64 A]) (hj : ∀ v, nth (ε ++ [v]) j = v) (H : ∀ w, Shown G ε t fs wx w → DevM w S T b mf sB Lb d) (hw : Wf d)
    (hk : ∀ w w', Shown G ε t fs wx w → Same w w' → k.den G Λ (ε ++ [.int .i64 r]) w' (if drawn then ws else w') (if drawn then X else BlkIn ε t')) :
    (VC.call 28 args [.int .i64] (.int .i64 (.var j)) [] drawn t t' un fs k).den G Λ ε wx ws X :=
  den_call_int (x := r) (fun w hs => by rw [ha, hP, ← hr]; exact c28 w B A (H w hs) hw) (hj _) hk
end
end Go.Proofs.Ytppbapnibpeolaa
