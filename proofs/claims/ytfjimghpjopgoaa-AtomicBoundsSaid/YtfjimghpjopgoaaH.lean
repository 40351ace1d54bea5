/- The law AtomicPieces returns true for every argument, where the examples of the chapter work. No other conditions. -/
import Derived.Test.YtfjimghpjopgoaaG
import Derived.KernelRfl
set_option maxRecDepth 100000
set_option linter.unusedVariables false
set_option linter.unusedSimpArgs false
namespace Go.Proofs.Ytfjimghpjopgoaa
open Go.Sx
theorem t3 : exFn { P := Try.prog } 3 [.agg [.int .i64 (.var 0), .int .i64 (.var 1), .int .i64 (.var 2), .int .i64 (.var 3)], .int .i64 (.var 4), .int .i64 (.var 5), .bool (.var 6)] [.int .i64, .int .i64, .int .i64, .int .i64, .int .i64, .int .i64, .bool] [] =
  VC.blk
  (VC.split (BE.lt (IE.lit 300) (IE.var 5))
    (VC.split (BE.le (IE.var 5) (IE.lit 65536))
      (VC.call 9 [] [Base.bool] (SV.bool (BE.var 8)) [] false [] [7] [7]
        [(7, [SV.int IntKind.i64 (IE.var 0), SV.int IntKind.i64 (IE.var 1), SV.int IntKind.i64 (IE.var 2), SV.int IntKind.i64 (IE.var 3)])]
        (VC.leaf 0 [SV.bool (BE.var 8)] [7] [(7, [SV.int IntKind.i64 (IE.var 0), SV.int IntKind.i64 (IE.var 1), SV.int IntKind.i64 (IE.var 2), SV.int IntKind.i64 (IE.var 3)])]))
      (VC.call 10
        [SV.agg [SV.int IntKind.i64 (IE.var 0), SV.int IntKind.i64 (IE.var 1), SV.int IntKind.i64 (IE.var 2), SV.int IntKind.i64 (IE.var 3)], SV.int IntKind.i64 (IE.var 4),
          SV.int IntKind.i64 (IE.var 5), SV.bool (BE.var 6)]
        [Base.slice, Base.int IntKind.i64] (SV.tuple [SV.var 8, SV.int IntKind.i64 (IE.var 9)]) [] false [] [7] [7]
        [(7, [SV.int IntKind.i64 (IE.var 0), SV.int IntKind.i64 (IE.var 1), SV.int IntKind.i64 (IE.var 2), SV.int IntKind.i64 (IE.var 3)])]
        (VC.call 11
          [SV.agg [SV.int IntKind.i64 (IE.var 0), SV.int IntKind.i64 (IE.var 1), SV.int IntKind.i64 (IE.var 2), SV.int IntKind.i64 (IE.var 3)], SV.int IntKind.i64 (IE.var 4),
            SV.int IntKind.i64 (IE.var 5), SV.bool (BE.var 6)]
          [Base.bool, Base.int IntKind.i64] (SV.tuple [SV.bool (BE.var 10), SV.int IntKind.i64 (IE.var 11)]) [] false [7] [7] [7]
          [(7, [SV.int IntKind.i64 (IE.var 0), SV.int IntKind.i64 (IE.var 1), SV.int IntKind.i64 (IE.var 2), SV.int IntKind.i64 (IE.var 3)])]
          (VC.start true [7] [7] [(7, [SV.int IntKind.i64 (IE.var 0), SV.int IntKind.i64 (IE.var 1), SV.int IntKind.i64 (IE.var 2), SV.int IntKind.i64 (IE.var 3)])]
            (VC.call 12 [SV.agg [SV.int IntKind.i64 (IE.var 0), SV.int IntKind.i64 (IE.var 1), SV.int IntKind.i64 (IE.var 2), SV.int IntKind.i64 (IE.var 3)]] [Base.bool] (SV.bool (BE.var 12)) [] true
              [7] [7] [7] [(7, [SV.int IntKind.i64 (IE.var 0), SV.int IntKind.i64 (IE.var 1), SV.int IntKind.i64 (IE.var 2), SV.int IntKind.i64 (IE.var 3)])]
              (VC.call 13 [SV.agg [SV.int IntKind.i64 (IE.var 0), SV.int IntKind.i64 (IE.var 1), SV.int IntKind.i64 (IE.var 2), SV.int IntKind.i64 (IE.var 3)]] [Base.bool] (SV.bool (BE.var 13)) []
                true [7] [7] [7] [(7, [SV.int IntKind.i64 (IE.var 0), SV.int IntKind.i64 (IE.var 1), SV.int IntKind.i64 (IE.var 2), SV.int IntKind.i64 (IE.var 3)])]
                (VC.split (BE.beq (BE.var 12) (BE.var 13))
                  (VC.call 14
                    [SV.agg [SV.int IntKind.i64 (IE.var 0), SV.int IntKind.i64 (IE.var 1), SV.int IntKind.i64 (IE.var 2), SV.int IntKind.i64 (IE.var 3)], SV.int IntKind.i64 (IE.var 4),
                      SV.int IntKind.i64 (IE.var 5), SV.bool (BE.var 6), SV.int IntKind.i64 (IE.var 9), SV.var 8]
                    [Base.bool] (SV.bool (BE.var 14)) [] true [7] [7] [7]
                    [(7, [SV.int IntKind.i64 (IE.var 0), SV.int IntKind.i64 (IE.var 1), SV.int IntKind.i64 (IE.var 2), SV.int IntKind.i64 (IE.var 3)])]
                    (VC.split (BE.var 14)
                      (VC.split (BE.beq (BE.var 10) (BE.eq (IE.len 8) (IE.lit 1)))
                        (VC.call 15 [SV.int IntKind.i64 (IE.var 11)] [Base.int IntKind.i64] (SV.int IntKind.i64 (IE.var 15)) [] true [7] [7] [7]
                          [(7, [SV.int IntKind.i64 (IE.var 0), SV.int IntKind.i64 (IE.var 1), SV.int IntKind.i64 (IE.var 2), SV.int IntKind.i64 (IE.var 3)])]
                          (VC.split (BE.eq (IE.var 15) (IE.var 9))
                            (VC.call 9 [] [Base.bool] (SV.bool (BE.var 16)) [] true [7] [7] [7]
                              [(7, [SV.int IntKind.i64 (IE.var 0), SV.int IntKind.i64 (IE.var 1), SV.int IntKind.i64 (IE.var 2), SV.int IntKind.i64 (IE.var 3)])]
                              (VC.leaf 0 [SV.bool (BE.var 16)] [7] [(7, [SV.int IntKind.i64 (IE.var 0), SV.int IntKind.i64 (IE.var 1), SV.int IntKind.i64 (IE.var 2), SV.int IntKind.i64 (IE.var 3)])]))
                            (VC.leaf 0 [SV.bool (BE.lit false)] [7]
                              [(7, [SV.int IntKind.i64 (IE.var 0), SV.int IntKind.i64 (IE.var 1), SV.int IntKind.i64 (IE.var 2), SV.int IntKind.i64 (IE.var 3)])])))
                        (VC.leaf 0 [SV.bool (BE.lit false)] [7] [(7, [SV.int IntKind.i64 (IE.var 0), SV.int IntKind.i64 (IE.var 1), SV.int IntKind.i64 (IE.var 2), SV.int IntKind.i64 (IE.var 3)])]))
                      (VC.leaf 0 [SV.bool (BE.lit false)] [7] [(7, [SV.int IntKind.i64 (IE.var 0), SV.int IntKind.i64 (IE.var 1), SV.int IntKind.i64 (IE.var 2), SV.int IntKind.i64 (IE.var 3)])])))
                  (VC.leaf 0 [SV.bool (BE.lit false)] [7] [(7, [SV.int IntKind.i64 (IE.var 0), SV.int IntKind.i64 (IE.var 1), SV.int IntKind.i64 (IE.var 2), SV.int IntKind.i64 (IE.var 3)])]))))))))
    (VC.call 10
      [SV.agg [SV.int IntKind.i64 (IE.var 0), SV.int IntKind.i64 (IE.var 1), SV.int IntKind.i64 (IE.var 2), SV.int IntKind.i64 (IE.var 3)], SV.int IntKind.i64 (IE.var 4),
        SV.int IntKind.i64 (IE.var 5), SV.bool (BE.var 6)]
      [Base.slice, Base.int IntKind.i64] (SV.tuple [SV.var 8, SV.int IntKind.i64 (IE.var 9)]) [] false [] [7] [7]
      [(7, [SV.int IntKind.i64 (IE.var 0), SV.int IntKind.i64 (IE.var 1), SV.int IntKind.i64 (IE.var 2), SV.int IntKind.i64 (IE.var 3)])]
      (VC.call 11
        [SV.agg [SV.int IntKind.i64 (IE.var 0), SV.int IntKind.i64 (IE.var 1), SV.int IntKind.i64 (IE.var 2), SV.int IntKind.i64 (IE.var 3)], SV.int IntKind.i64 (IE.var 4),
          SV.int IntKind.i64 (IE.var 5), SV.bool (BE.var 6)]
        [Base.bool, Base.int IntKind.i64] (SV.tuple [SV.bool (BE.var 10), SV.int IntKind.i64 (IE.var 11)]) [] false [7] [7] [7]
        [(7, [SV.int IntKind.i64 (IE.var 0), SV.int IntKind.i64 (IE.var 1), SV.int IntKind.i64 (IE.var 2), SV.int IntKind.i64 (IE.var 3)])]
        (VC.start true [7] [7] [(7, [SV.int IntKind.i64 (IE.var 0), SV.int IntKind.i64 (IE.var 1), SV.int IntKind.i64 (IE.var 2), SV.int IntKind.i64 (IE.var 3)])]
          (VC.call 12 [SV.agg [SV.int IntKind.i64 (IE.var 0), SV.int IntKind.i64 (IE.var 1), SV.int IntKind.i64 (IE.var 2), SV.int IntKind.i64 (IE.var 3)]] [Base.bool] (SV.bool (BE.var 12)) [] true
            [7] [7] [7] [(7, [SV.int IntKind.i64 (IE.var 0), SV.int IntKind.i64 (IE.var 1), SV.int IntKind.i64 (IE.var 2), SV.int IntKind.i64 (IE.var 3)])]
            (VC.call 13 [SV.agg [SV.int IntKind.i64 (IE.var 0), SV.int IntKind.i64 (IE.var 1), SV.int IntKind.i64 (IE.var 2), SV.int IntKind.i64 (IE.var 3)]] [Base.bool] (SV.bool (BE.var 13)) [] true
              [7] [7] [7] [(7, [SV.int IntKind.i64 (IE.var 0), SV.int IntKind.i64 (IE.var 1), SV.int IntKind.i64 (IE.var 2), SV.int IntKind.i64 (IE.var 3)])]
              (VC.split (BE.beq (BE.var 12) (BE.var 13))
                (VC.call 14
                  [SV.agg [SV.int IntKind.i64 (IE.var 0), SV.int IntKind.i64 (IE.var 1), SV.int IntKind.i64 (IE.var 2), SV.int IntKind.i64 (IE.var 3)], SV.int IntKind.i64 (IE.var 4),
                    SV.int IntKind.i64 (IE.var 5), SV.bool (BE.var 6), SV.int IntKind.i64 (IE.var 9), SV.var 8]
                  [Base.bool] (SV.bool (BE.var 14)) [] true [7] [7] [7]
                  [(7, [SV.int IntKind.i64 (IE.var 0), SV.int IntKind.i64 (IE.var 1), SV.int IntKind.i64 (IE.var 2), SV.int IntKind.i64 (IE.var 3)])]
                  (VC.split (BE.var 14)
                    (VC.split (BE.beq (BE.var 10) (BE.eq (IE.len 8) (IE.lit 1)))
                      (VC.call 15 [SV.int IntKind.i64 (IE.var 11)] [Base.int IntKind.i64] (SV.int IntKind.i64 (IE.var 15)) [] true [7] [7] [7]
                        [(7, [SV.int IntKind.i64 (IE.var 0), SV.int IntKind.i64 (IE.var 1), SV.int IntKind.i64 (IE.var 2), SV.int IntKind.i64 (IE.var 3)])]
                        (VC.split (BE.eq (IE.var 15) (IE.var 9))
                          (VC.call 9 [] [Base.bool] (SV.bool (BE.var 16)) [] true [7] [7] [7]
                            [(7, [SV.int IntKind.i64 (IE.var 0), SV.int IntKind.i64 (IE.var 1), SV.int IntKind.i64 (IE.var 2), SV.int IntKind.i64 (IE.var 3)])]
                            (VC.leaf 0 [SV.bool (BE.var 16)] [7] [(7, [SV.int IntKind.i64 (IE.var 0), SV.int IntKind.i64 (IE.var 1), SV.int IntKind.i64 (IE.var 2), SV.int IntKind.i64 (IE.var 3)])]))
                          (VC.leaf 0 [SV.bool (BE.lit false)] [7] [(7, [SV.int IntKind.i64 (IE.var 0), SV.int IntKind.i64 (IE.var 1), SV.int IntKind.i64 (IE.var 2), SV.int IntKind.i64 (IE.var 3)])])))
                      (VC.leaf 0 [SV.bool (BE.lit false)] [7] [(7, [SV.int IntKind.i64 (IE.var 0), SV.int IntKind.i64 (IE.var 1), SV.int IntKind.i64 (IE.var 2), SV.int IntKind.i64 (IE.var 3)])]))
                    (VC.leaf 0 [SV.bool (BE.lit false)] [7] [(7, [SV.int IntKind.i64 (IE.var 0), SV.int IntKind.i64 (IE.var 1), SV.int IntKind.i64 (IE.var 2), SV.int IntKind.i64 (IE.var 3)])])))
                (VC.leaf 0 [SV.bool (BE.lit false)] [7] [(7, [SV.int IntKind.i64 (IE.var 0), SV.int IntKind.i64 (IE.var 1), SV.int IntKind.i64 (IE.var 2), SV.int IntKind.i64 (IE.var 3)])])))))))) := by kernel_rfl

theorem resR_unique {u p b o lba n : Int} {power : Bool} {L L' : List (Int × Int)} {e e' : Int} (h : (cfgOk u p b o && okBlk lba n) = false ∧ L = [] ∧ e = 2 ∨ (cfgOk u p b o && okBlk lba n) = true ∧ e = 0 ∧ Cut (limOf u p power) b o lba n L)
    (h' : (cfgOk u p b o && okBlk lba n) = false ∧ L' = [] ∧ e' = 2 ∨ (cfgOk u p b o && okBlk lba n) = true ∧ e' = 0 ∧ Cut (limOf u p power) b o lba n L') : L = L' ∧ e = e' := by
  rcases h with ⟨h1, rfl, rfl⟩ | ⟨h1, rfl, h2⟩ <;> rcases h' with ⟨h3, rfl, rfl⟩ | ⟨h3, rfl, h4⟩
  · exact ⟨rfl, rfl⟩
  · rw [h1] at h3; cases h3
  · rw [h1] at h3; cases h3
  · exact ⟨h2.unique h4, rfl⟩

theorem c3 (works : ∀ w, Gives Try.prog 9 [] w (.bool true)) (u p b o lba n : Int) (power : Bool) (w : World) :
    Gives Try.prog 3 [.agg #[.int .i64 u, .int .i64 p, .int .i64 b, .int .i64 o], .int .i64 lba, .int .i64 n, .bool power] w (.bool true) := by
  refine gives mix t3 rfl rfl (ε := [.int .i64 u, .int .i64 p, .int .i64 b, .int .i64 o, .int .i64 lba, .int .i64 n, .bool power]) ⟨⟨_, rfl⟩, ⟨_, rfl⟩, ⟨_, rfl⟩, ⟨_, rfl⟩, ⟨_, rfl⟩, ⟨_, rfl⟩, ⟨_, rfl⟩, trivial⟩ (den_blk fun b7 h7 _ _ => den_norm (by simp only [List.cons_append, List.nil_append]; rfl) ?_)
  refine den_splitLt (fun _ => den_splitLe (fun _ => den_call_bool (b := true) (fun w _ => works w) rfl (fun _ _ _ _ => den_leaf rfl)) (fun _ => ?_)) (fun _ => ?_)
  all_goals
    refine den_callR (fun w l w' => ∃ s e, l = [s, .int .i64 e] ∧ PieceR u p b o lba n power w' s e ∧ ∀ g, s.ownBlock = some g → w.heap.size ≤ g) (fun w1 h1 => ?_) (fun w1 l w2 h1 hf hR hs12 => ?_)
    · refine (c10 u p b o lba n power w1).mono fun v w' ⟨s, e, hv, hr⟩ => ?_
      obtain ⟨h2, h3⟩ := pieceR (w0 := w1) hr
      obtain ⟨L, hL, _⟩ := h2
      obtain ⟨a, c, hs⟩ := hL.slice
      exact ⟨[s, .int .i64 e], ⟨⟨_, _, _, hs⟩, ⟨_, rfl⟩, trivial⟩, hv, s, e, rfl, ⟨L, hL, ‹_›⟩, h3⟩
    obtain ⟨s, e, rfl, ⟨L, hL, hlen, hcut⟩, hfr⟩ := hR
    obtain ⟨sa, sc, rfl⟩ := hL.slice
    have hapart : ∀ g, (Value.slice sa L.length sc).ownBlock = some g → b7 ≠ g := fun g hg e => by
      have := hfr g hg
      have := h1.lt (i := 7) (b := b7) (by simp [keys]) rfl
      omega
    refine den_norm (by simp only [List.cons_append, List.nil_append]; rfl) ?_
    refine den_callR (fun w l w' => ∃ (L2 : List (Int × Int)) (e2 : Int), ((cfgOk u p b o && okBlk lba n) = false ∧ L2 = [] ∧ e2 = 2 ∨ (cfgOk u p b o && okBlk lba n) = true ∧ e2 = 0 ∧ Cut (limOf u p power) b o lba n L2) ∧ l = [.bool (decide ((L2.length : Int) = 1)), .int .i64 e2]) (fun w3 h3 => ?_) (fun w3 l w4 h3 hf hR hs34 => ?_)
    · exact (c11 u p b o lba n power w3).mono fun v w' ⟨L2, e2, _, hr, hv⟩ => ⟨[.bool (decide ((L2.length : Int) = 1)), .int .i64 e2], ⟨⟨_, rfl⟩, ⟨_, rfl⟩, trivial⟩, hv, L2, e2, hr, rfl⟩
    obtain ⟨L2, e2, hr2, rfl⟩ := hR
    obtain ⟨rfl, rfl⟩ := resR_unique hcut hr2
    have hL4 : Mine pcE 36 w4 (.slice sa L.length sc) L := (hL.kept h3.kept fun g hg hin => by
      simp [BlkIn, nth, blkOf, vaddr] at hin
      exact hapart g hg hin).same hs34
    refine den_norm (by simp only [List.cons_append, List.nil_append]; rfl) (den_start1 fun w5 h5 => ?_)
    have hL5 := hL4.kept h5.kept fun g hg hin => by
      simp [BlkIn, nth, blkOf, vaddr] at hin
      exact hapart g hg hin
    refine den_call_bool (b := cfgOk u p b o) (fun w _ => c12 u p b o w) rfl (fun w6 w7 h6 h7 => den_norm (by simp only [List.cons_append, List.nil_append]; rfl) ?_)
    have hL7 := (hL5.kept h6.kept fun g hg hin => by
      simp [BlkIn, nth, blkOf, vaddr] at hin
      exact hapart g hg hin).same h7
    refine den_call_bool (b := cfgOk u p b o) (fun w _ => c13 u p b o w) rfl (fun w8 w9 h8 h9 => den_norm (by simp only [List.cons_append, List.nil_append]; rfl) ?_)
    have hL9 := (hL7.kept h8.kept fun g hg hin => by
      simp [BlkIn, nth, blkOf, vaddr] at hin
      exact hapart g hg hin).same h9
    refine den_split_true (by simp [BE.den, nth, vbool]) ?_
    refine den_callR (fun w l w' => l = [.bool true]) (fun w10 h10 => ?_) (fun w10 l w11 h10 hf hR hs => ?_)
    · refine (c14 u p b o lba n power e _ L w10 (hL9.kept h10.kept fun g hg hin => by
        simp [BlkIn, nth, blkOf, vaddr] at hin
        exact hapart g hg hin).arr).mono fun v w' ⟨L3, e3, _, hr3, hv⟩ => ?_
      obtain ⟨rfl, rfl⟩ := resR_unique hcut hr3
      exact ⟨[.bool true], ⟨⟨_, rfl⟩, trivial⟩, by rw [hv]; simp [SV.den, BE.den, nth, vbool], rfl⟩
    · subst hR
      refine den_norm (by simp only [List.cons_append, List.nil_append]; rfl) (den_split_true (by simp [BE.den, nth, vbool]) (den_split_true ?_ ?_))
      · simp [BE.den, IE.den, nth, vbool, vlen]
      · refine den_call_int (x := e) (fun w _ => c15 e w) rfl (fun _ _ _ _ => den_norm (by simp only [List.cons_append, List.nil_append]; rfl) (den_split_true (by simp [BE.den, IE.den, nth, vint]) ?_))
        exact den_call_bool (b := true) (fun w _ => works w) rfl (fun _ _ _ _ => den_leaf rfl)
end Go.Proofs.Ytfjimghpjopgoaa
