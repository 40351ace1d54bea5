/- maps.DeleteFunc and maps.Clone on maps of bytes. No conditions beyond those that each theorem names. -/
import Derived.Test.YtfjlnfgbfclgbaaKC
import Derived.WalkKit
import Derived.KernelRfl
import Derived.Shelf.SlMaps.DeleteFunc
import Derived.Shelf.SlMaps.Clone
set_option maxRecDepth 100000
set_option maxHeartbeats 1000000
set_option linter.unusedVariables false
set_option linter.unusedSimpArgs false
namespace Go.Proofs.Ytfjlnfgbfclgbaa
open Go.Shelf
def delB_ren : Go.Shelf.Ren := ⟨fun | 5 => 46 | n => n, fun | 23 => 69 | 26 => 5 | 24 => 5 | 27 => 90 | 0 => 0 | 4 => 4 | n => n, fun n => n⟩
theorem delB : SlLaysDf.n5 Try.prog delB_ren where
  mixed := by kernel_rfl
  f5 := ⟨Try.f46.name, by decide, Try.func46.trans (congrArg some (by kernel_rfl))⟩
  t0 := Try.underlying0
  a0 := Try.isAgg0
  z0 := Try.sizeOf0
  v0 := Try.zeroValue0
  t4 := Try.underlying4
  a4 := Try.isAgg4
  z4 := Try.sizeOf4
  v4 := Try.zeroValue4
  t23 := Try.underlying69
  a23 := Try.isAgg69
  z23 := Try.sizeOf69
  v23 := Try.zeroValue69
  a24 := Try.isAgg5
  z24 := Try.sizeOf5
  a26 := Try.isAgg5
  z26 := Try.sizeOf5
  t27 := Try.underlying90
  a27 := Try.isAgg90
  z27 := Try.sizeOf90
  v27 := Try.zeroValue90
def cloneB_ren : Go.Shelf.Ren := ⟨fun | 5 => 56 | 7 => 62 | n => n, fun | 23 => 69 | 25 => 5 | 3 => 5 | 4 => 4 | 20 => 20 | n => n, fun n => n⟩
theorem cloneB : SlLaysW.n5 Try.prog cloneB_ren where
  mixed := by kernel_rfl
  f5 := ⟨Try.f56.name, by decide, Try.func56.trans (congrArg some (by kernel_rfl))⟩
  f7 := Try.func62.trans (congrArg some (by kernel_rfl))
  t4 := Try.underlying4
  a4 := Try.isAgg4
  z4 := Try.sizeOf4
  v4 := Try.zeroValue4
  t20 := Try.underlying20
  a20 := Try.isAgg20
  z20 := Try.sizeOf20
  v20 := Try.zeroValue20
  t23 := Try.underlying69
  a23 := Try.isAgg69
  z23 := Try.sizeOf69
  v23 := Try.zeroValue69
end Go.Proofs.Ytfjlnfgbfclgbaa
namespace Go.Proofs.Ytfjlnfgbfclgbaa
open Go.Sx Go.Maps Go.RowKit

theorem nodup_below : ∀ (n : Nat) (l : List Nat), l.Nodup → (∀ x ∈ l, x < n) → l.length ≤ n
  | 0, l, _, h => by
    cases l with
    | nil => exact Nat.le_refl _
    | cons x l => exact absurd (h x (List.mem_cons_self ..)) (by omega)
  | n + 1, l, hn, h => by
    have h1 := nodup_below n (l.erase n) (hn.erase n) fun x hx => by
      have q1 := h x (List.mem_of_mem_erase hx)
      have q2 : x ≠ n := fun e => by
        subst e
        exact absurd hx (List.Nodup.not_mem_erase hn)
      omega
    by_cases hm : n ∈ l
    · have := List.length_erase_of_mem hm
      have : 0 < l.length := List.length_pos_of_mem hm
      omega
    · rw [List.erase_of_not_mem hm] at h1
      omega

/-- keys and elements are bytes -/
def Bytes (B : Int → Option Int) : Prop := ∀ k v, B k = some v → (0 ≤ k ∧ k < 256) ∧ (0 ≤ v ∧ v < 256)
noncomputable abbrev RB : Value → Option (DataW Unit × List MemPlace) := plainElem Try.prog 5
theorem wfB {x : Int} (h : 0 ≤ x ∧ x < 256) : (Lit.int .u8 x).wf = true := by
  have e1 : IntKind.u8.min = 0 := rfl
  have e2 : IntKind.u8.max = 255 := rfl
  simp only [Lit.wf, e1, e2]
  simp
  omega
theorem own_of_map {w : World} {m : Nat} {B : Int → Option Int} (h : MapAt .u8 .u8 w m B) (hB : Bytes B) :
    ∃ es clock, w.heap[m]? = some (.map es clock) ∧ Go.WideElems.Fit Try.prog 5 RB es clock ∧ (∀ x ∈ es.toList, ∃ k v, x.key = .int .u8 k ∧ x.val = .int .u8 v ∧ B k = some v) ∧ ∀ k v, B k = some v → ∃ x ∈ es.toList, x.key = .int .u8 k := by
  obtain ⟨es, clock, hh, hs, h1, h2⟩ := h
  refine ⟨es, clock, hh, ⟨?_, hs, fun x hx => ?_⟩, h1, h2⟩
  · have hn := hs.2.2
    have h3 : ∀ l : List MapEntry, (l.map (·.key)).Nodup → (∀ x ∈ l, ∃ k : Nat, x.key = .int .u8 (k : Int) ∧ k < 256) → l.length ≤ 256 := by
      intro l hl hk
      have key : ∀ l : List MapEntry, (∀ x ∈ l, ∃ k : Nat, x.key = .int .u8 (k : Int) ∧ k < 256) → ∃ ks : List Nat, l.map (·.key) = ks.map (fun (k : Nat) => Value.int .u8 (k : Int)) ∧ ∀ k ∈ ks, k < 256 := by
        intro l
        induction l with
        | nil => exact fun _ => ⟨[], rfl, by simp⟩
        | cons x l ih =>
          intro h
          obtain ⟨ks, q1, q2⟩ := ih fun y hy => h y (List.mem_cons_of_mem _ hy)
          obtain ⟨k, q3, q4⟩ := h x (List.mem_cons_self ..)
          exact ⟨k :: ks, by simp [q1, q3], fun y hy => by rcases List.mem_cons.1 hy with rfl | hy; exact q4; exact q2 y hy⟩
      obtain ⟨ks, q1, q2⟩ := key l hk
      have hnd : ks.Nodup := by
        rw [q1] at hl
        exact List.Pairwise.imp (fun h e => h (by rw [e])) (List.pairwise_map.1 hl)
      have := nodup_below 256 ks hnd q2
      have e : l.length = ks.length := by simpa using congrArg List.length q1
      omega
    have := h3 es.toList hn fun x hx => by
      obtain ⟨k, v, e1, _, e3⟩ := h1 x hx
      have := (hB k v e3).1
      exact ⟨k.toNat, by rw [e1]; congr 1; omega, by omega⟩
    have e : es.size = es.toList.length := by simp
    rw [e]
    exact Nat.le_trans this (by decide)
  · obtain ⟨k, v, e1, e2, e3⟩ := h1 x hx
    refine ⟨(.int .u8 k, .lit (.int .u8 v)), ?_⟩
    simp [Go.WideElems.rd, e1, e2, keyOf_int_mk u5 (wfB (hB k v e3).1), plainElem_int u5 (wfB (hB k v e3).2)]
def pdB (page : Int) (_ : Lit) : DataW Unit → Bool
  | .lit (.int _ v) => decide (v = page)
  | _ => false
theorem grown_of_same {w w' : World} (h : Same w w') : w.grownBy w' none := ⟨h.os, h.tape, h.output, h.size, fun k hk _ => h.block k hk fun h => h⟩
theorem kept_of_grown {w w' : World} {m : Nat} (h : w.grownBy w' (some m)) : Kept (fun x => x = m) w w' := ⟨h.os, h.tape, h.output, h.size, fun k hk hne => h.block k hk fun e => hne (Option.some.inj e)⟩
theorem c46 (B : Int → Option Int) (hB : Bytes B) (page : Int) (pp m : Nat) (w : World) (hp : PtsTo w (pt pp) [.int .u8 page]) (h : MapAt .u8 .u8 w m B) (hne : pp ≠ m) :
    Runs Try.prog 46 [.map (some m), .func (.func 47) #[] #[pt pp]] w (fun x => x = m) (fun v w' => v = .tuple #[] ∧ MapAt .u8 .u8 w' m (readB B page)) := by
  obtain ⟨es, clock, hh, F, h1, h2⟩ := own_of_map h hB
  have K : Keyed Try.prog 5 := int_keyed u5
  have hown : w.ownsMap Try.prog 5 RB m es.size (.map ((es.toList.map (Go.WideElems.rg Try.prog 5 RB)).foldr DataW.insert [])) := ⟨es, clock, hh, F, Nat.le_refl _, rfl⟩
  have eg : ∀ args w, (callFunc 47 args).run Try.prog w = .ok (.enter 47 args) w := enters_of Try.func47 (by kernel_rfl) rfl
  have hcon := AnyDf.maps_DeleteFunc delB K RB (pdB page) 47 #[pt pp] m es.size _ w eg hown (fun W key val kl yd yp hgW hkey hv => by
    obtain ⟨k, rfl, _, _⟩ := Maps.keyOf_int_inv u5 hkey
    obtain ⟨c, rfl, hy, _⟩ := plainElem_int_inv u5 hv
    obtain rfl : yd = .lit (.int .u8 c) := by simpa using (congrArg Prod.fst hy)
    refine (c47 k c page pp W (hp.kept (kept_of_grown hgW) fun x hx e => ?_)).run.mono fun e w' ⟨he, hs⟩ => ⟨he, grown_of_same hs⟩
    exact hne ((Option.some.inj hx).trans e))
  change Calls Try.prog 46 _ _ _ at hcon
  refine ⟨hcon.mono ?_⟩
  rintro e w' ⟨rfl, hown', hg⟩
  refine ⟨_, rfl, ⟨rfl, ?_⟩, kept_of_grown hg⟩
  change World.ownsMap w' Try.prog 5 RB m es.size _ at hown'
  obtain ⟨es', clock', hh', F', _, hD⟩ := hown'
  simp only [Lib.deleteFuncD, DataW.map.injEq] at hD
  have rgx : ∀ x ∈ es.toList, ∀ k v, x.key = .int .u8 k → x.val = .int .u8 v → B k = some v → Go.WideElems.rg Try.prog 5 RB x = (.int .u8 k, .lit (.int .u8 v)) := fun x hx k v e1 e2 e3 => by
    refine Go.WideElems.rg_of ?_
    simp [Go.WideElems.rd, e1, e2, keyOf_int_mk u5 (wfB (hB k v e3).1), plainElem_int u5 (wfB (hB k v e3).2)]
  have mem' : ∀ p, p ∈ es'.toList.map (Go.WideElems.rg Try.prog 5 RB) ↔ p ∈ es.toList.map (Go.WideElems.rg Try.prog 5 RB) ∧ (!pdB page p.1 p.2) = true := fun p => by
    rw [← mem_sorted (l := es'.toList.map _), ← hD, List.mem_filter, mem_sorted]
  refine ⟨es', clock', hh', F'.stamped, fun x hx => ?_, fun k v hf => ?_⟩
  · obtain ⟨y, hy⟩ := F'.reads x hx
    have hm := (mem' _).1 (List.mem_map.2 ⟨x, hx, Go.WideElems.rg_of hy⟩)
    obtain ⟨x0, hx0, e0⟩ := List.mem_map.1 hm.1
    obtain ⟨k, v, e1, e2, e3⟩ := h1 x0 hx0
    rw [rgx x0 hx0 k v e1 e2 e3] at e0
    subst e0
    obtain ⟨k', q1, q2, _⟩ := Maps.keyOf_int_inv u5 (Go.WideElems.rd_key hy)
    obtain ⟨z, q3, q4⟩ := Go.WideElems.rd_val hy
    obtain ⟨c, q5, q6, _⟩ := plainElem_int_inv u5 q3
    rw [q6] at q4
    simp only [Lit.int.injEq, true_and, DataW.lit.injEq] at q2 q4
    refine ⟨k, v, by rw [q1, q2], by rw [q5, q4], ?_⟩
    have hv : v ≠ page := by simpa [pdB] using hm.2
    simp [readB, e3, hv]
  · unfold readB at hf
    cases hb : B k with
    | none => rw [hb] at hf; cases hf
    | some p =>
      rw [hb] at hf
      simp only at hf
      split at hf
      · cases hf
      · rename_i hpp
        cases hf
        obtain ⟨x, hx, e1⟩ := h2 k v hb
        obtain ⟨k', v', q1, q2, q3⟩ := h1 x hx
        rw [e1] at q1
        cases q1
        rw [hb] at q3
        cases q3
        have := (mem' (.int .u8 k, .lit (.int .u8 v))).2 ⟨List.mem_map.2 ⟨x, hx, rgx x hx k v e1 q2 hb⟩, by simp [pdB, hpp]⟩
        obtain ⟨x', hx', e'⟩ := List.mem_map.1 this
        refine ⟨x', hx', ?_⟩
        obtain ⟨y, hy⟩ := F'.reads x' hx'
        rw [Go.WideElems.rg_of hy] at e'
        subst e'
        obtain ⟨k', q1, q2, _⟩ := Maps.keyOf_int_inv u5 (Go.WideElems.rd_key hy)
        simp only [Lit.int.injEq, true_and] at q2
        rw [q1, q2]
theorem c56 (B : Int → Option Int) (m : Nat) (w : World) (h : MapAt .u8 .u8 w m B) : GivesR Try.prog 56 [.map (some m)] w (fun v w' => ∃ m', v = .map (some m') ∧ w.heap.size ≤ m' ∧ MapAt .u8 .u8 w' m' B) := by
  obtain ⟨es, clock, hh, hs, h1, h2⟩ := h
  have hcon := AnyW.maps_Clone cloneB m es clock w hh
  change Calls Try.prog 56 _ _ _ at hcon
  refine ⟨hcon.mono ?_⟩
  rintro e w' ⟨rfl, rfl⟩
  exact ⟨_, rfl, ⟨w.heap.size, rfl, Nat.le_refl _, es, clock, (MapKept.heap_alloc w _).1, hs, h1, h2⟩, (Kept.refl _ w).alloc _⟩
end Go.Proofs.Ytfjlnfgbfclgbaa
