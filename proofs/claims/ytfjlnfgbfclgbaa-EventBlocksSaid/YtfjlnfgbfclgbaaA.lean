/- What the small functions of the chapter return. No conditions beyond those that each theorem names. -/
import Derived.Test.YtfjlnfgbfclgbaaT
set_option maxRecDepth 100000
set_option linter.unusedVariables false
set_option linter.unusedSimpArgs false
namespace Go.Proofs.Ytfjlnfgbfclgbaa
open Go.Sx

theorem mix : Try.prog.follows .mixedOrders = true := by kernel_rfl
abbrev pt (b : Nat) : Value := .pointer (some ⟨b, 0, none⟩)
/-- a notice: type, info, page -/
structure Ntc where
  t : Int
  i : Int
  p : Int
def Ntc.cells (n : Ntc) : List Value := [.int .u8 n.t, .int .u8 n.i, .int .u8 n.p]
def Ntc.v (n : Ntc) : Value := .agg #[.int .u8 n.t, .int .u8 n.i, .int .u8 n.p]
def ntcE : Enc Ntc := ⟨Ntc.cells, 3, fun _ => rfl⟩
structure Ntc.Ok (n : Ntc) : Prop where
  t : 0 ≤ n.t ∧ n.t ≤ 255
  i : 0 ≤ n.i ∧ n.i ≤ 255
  p : 0 ≤ n.p ∧ n.p ≤ 255
def validI (t i : Int) : Bool :=
  if t = 0 then decide (i < 6) else if t = 1 then decide (i < 3) else if t = 2 then (decide (i = 0) || decide (i = 1) || decide (i = 3) || decide (i = 239) || decide (i = 240)) else if t = 6 then decide (i < 2) else false
def bitI (t i : Int) : Int :=
  if t = 0 then 32 else if t = 1 then i else if t = 2 then (if i = 0 then 8 else if i = 1 then 9 else if i = 3 then 11 else if i = 239 then 27 else if i = 240 then 31 else 0) else if t = 6 then 32 else 0
def Ntc.valid (n : Ntc) : Bool := validI n.t n.i
def enI (t i c : Int) : Bool := validI t i && (decide (bitI t i = 32) || decide (c / 2 ^ (bitI t i).toNat % 2 = 1))
def resI (n : Ntc) : Int := n.t + 256 * n.i + 65536 * n.p

theorem or_add {x y k : Nat} (hx : x < 2 ^ k) (hk : k ≤ 32) (h : y * 2 ^ k + x < 4294967296) : bitv .or .u32 (x : Int) ((y * 2 ^ k : Nat) : Int) = ((y * 2 ^ k + x : Nat) : Int) := by
  have hy : y * 2 ^ k < 4294967296 := by omega
  have hx' : x < 4294967296 := by omega
  have e1 : (BitVec.ofInt 32 (x : Int)).toNat = x := by
    rw [BitVec.toNat_ofInt]
    omega
  have e2 : (BitVec.ofInt 32 ((y * 2 ^ k : Nat) : Int)).toNat = y * 2 ^ k := by
    rw [BitVec.toNat_ofInt]
    omega
  have e3 : x ||| y * 2 ^ k = y * 2 ^ k + x := by
    rw [Nat.or_comm, Nat.mul_comm, Nat.two_pow_add_eq_or_of_lt hx]
  show IntKind.u32.wrap (((BitVec.ofInt 32 (x : Int) ||| BitVec.ofInt 32 ((y * 2 ^ k : Nat) : Int) : BitVec 32)).toNat : Int) = _
  rw [BitVec.toNat_or, e1, e2, e3, IntKind.wrap_u32]
  omega
theorem and_one {x : Int} (h1 : 0 ≤ x) (h2 : x < 4294967296) : bitv .and .u32 x 1 = x % 2 := by
  obtain ⟨n, rfl⟩ : ∃ n : Nat, x = n := ⟨x.toNat, by omega⟩
  have e1 : (BitVec.ofInt 32 (n : Int)).toNat = n := by
    rw [BitVec.toNat_ofInt]
    omega
  have e2 : (BitVec.ofInt 32 (1 : Int)).toNat = 1 := by decide
  show IntKind.u32.wrap (((BitVec.ofInt 32 (n : Int) &&& BitVec.ofInt 32 (1 : Int) : BitVec 32)).toNat : Int) = _
  rw [BitVec.toNat_and, e1, e2, Nat.and_one_is_mod, IntKind.wrap_u32]
  omega

theorem c10 (n : Ntc) (h : n.Ok) (w : World) : Gives Try.prog 10 [n.v] w (.int .u32 (resI n)) := by
  obtain ⟨t, i, p⟩ := n
  obtain ⟨h1, h2, h3⟩ := h
  refine gives mix t10 rfl rfl (ε := [.int .u8 t, .int .u8 i, .int .u8 p]) ⟨⟨_, rfl⟩, ⟨_, rfl⟩, ⟨_, rfl⟩, trivial⟩ (den_blk fun b _ _ _ => den_norm (by simp only [List.cons_append, List.nil_append]; rfl) (den_leaf ?_))
  dsimp only at h1 h2 h3
  obtain ⟨t, rfl⟩ : ∃ k : Nat, t = k := ⟨t.toNat, by omega⟩
  obtain ⟨i, rfl⟩ : ∃ k : Nat, i = k := ⟨i.toNat, by omega⟩
  obtain ⟨p, rfl⟩ : ∃ k : Nat, p = k := ⟨p.toNat, by omega⟩
  have e0 : IntKind.u32.wrap (t : Int) = t := by rw [IntKind.wrap_u32]; omega
  have e1 : IntKind.u32.wrap (IntKind.u32.wrap (i : Int) * 2 ^ (Min.min (8 : Int).toNat 32)) = ((i * 2 ^ 8 : Nat) : Int) := by
    rw [IntKind.wrap_u32, IntKind.wrap_u32]
    have : (2 : Int) ^ (Min.min (8 : Int).toNat 32) = 256 := by decide
    rw [this]
    omega
  have e2 : IntKind.u32.wrap (IntKind.u32.wrap (p : Int) * 2 ^ (Min.min (16 : Int).toNat 32)) = ((p * 2 ^ 16 : Nat) : Int) := by
    rw [IntKind.wrap_u32, IntKind.wrap_u32]
    have : (2 : Int) ^ (Min.min (16 : Int).toNat 32) = 65536 := by decide
    rw [this]
    omega
  simp only [denL, SV.den, IE.den, nth, vint, IntKind.bits]
  rw [e0, e1, e2, or_add (by omega) (by decide) (by omega), or_add (by omega) (by decide) (by omega)]
  simp only [resI]
  congr 2
  omega
theorem c11 (n : Ntc) (h : n.Ok) (w : World) : Gives Try.prog 11 [n.v] w (.int .u32 (resI n)) := by
  obtain ⟨t, i, p⟩ := n
  obtain ⟨h1, h2, h3⟩ := h
  refine gives mix t11 rfl rfl (ε := [.int .u8 t, .int .u8 i, .int .u8 p]) ⟨⟨_, rfl⟩, ⟨_, rfl⟩, ⟨_, rfl⟩, trivial⟩ (den_blk fun b _ _ _ => den_norm (by simp only [List.cons_append, List.nil_append]; rfl) (den_leaf ?_))
  dsimp only at h1 h2 h3
  simp only [denL, SV.den, IE.den, nth, vint, IntKind.wrap_u32, resI]
  congr 2
  omega
theorem c13 (n : Ntc) (w : World) : Gives Try.prog 13 [n.v] w (.bool n.valid) := by
  obtain ⟨t, i, p⟩ := n
  refine gives mix t13 rfl rfl (ε := [.int .u8 t, .int .u8 i, .int .u8 p]) ⟨⟨_, rfl⟩, ⟨_, rfl⟩, ⟨_, rfl⟩, trivial⟩ (den_blk fun b _ _ _ => den_norm (by simp only [List.cons_append, List.nil_append]; rfl) ?_)
  repeat' (first | refine den_leaf ?_ | refine den_splitEq (fun _ => ?_) (fun _ => ?_))
  all_goals simp_all [denL, SV.den, BE.den, IE.den, nth, vint, Ntc.valid, validI]
theorem u103 : Try.prog.underlying 103 = some (.map 5 3) := Try.underlying103
theorem u5 : Try.prog.underlying 5 = some (.int .u8) := Try.underlying5
theorem z3 : ∀ w, (zeroValue 3).run Try.prog w = .ok (.int .i64 0) w := fun w => by
  have : Try.prog.info? 3 = some Try.t3 := by kernel_rfl
  have hz : Try.t3.zero = some (.int .i64 0) := by kernel_rfl
  simp [zeroValue, typeInfo, this, hz]
def bitM : Int → Option Int := upd (upd (upd (upd (upd (fun _ => none) 0 8) 1 9) 3 11) 239 27) 240 31
theorem bitM_eq (i : Int) : (bitM i).isSome = (decide (i = 0) || decide (i = 1) || decide (i = 3) || decide (i = 239) || decide (i = 240)) ∧ (bitM i).getD 0 = (if i = 0 then 8 else if i = 1 then 9 else if i = 3 then 11 else if i = 239 then 27 else if i = 240 then 31 else 0) := by
  unfold bitM upd
  by_cases h1 : i = 240
  · subst h1; decide
  by_cases h2 : i = 239
  · subst h2; decide
  by_cases h3 : i = 3
  · subst h3; decide
  by_cases h4 : i = 1
  · subst h4; decide
  by_cases h5 : i = 0
  · subst h5; decide
  simp [h1, h2, h3, h4, h5]
theorem c31 (n : Ntc) (h : n.Ok) (w : World) : Gives Try.prog 31 [n.v] w (.tuple #[.int .i64 (bitI n.t n.i), .bool n.valid]) := by
  obtain ⟨t, i, p⟩ := n
  have h2 := h.i
  dsimp only at h2
  refine gives mix t31 rfl rfl (ε := [.int .u8 t, .int .u8 i, .int .u8 p]) ⟨⟨_, rfl⟩, ⟨_, rfl⟩, ⟨_, rfl⟩, trivial⟩ (den_blk fun b kb _ _ => den_norm (by simp only [List.cons_append, List.nil_append]; rfl) ?_)
  have zb : w.heap.size ≤ b := kb
  refine den_splitEq (fun ht => ?_) (fun ht => den_splitEq (fun ht1 => ?_) (fun ht1 => den_splitEq (fun ht2 => ?_) (fun ht2 => den_splitEq (fun ht3 => ?_) (fun ht3 => ?_))))
  · have ht' : t = 0 := ht
    subst ht'
    refine den_start1 fun w1 _ => den_leaf ?_
    have e : decide (i ≤ 5) = decide (i < 6) := by congr 1; apply propext; omega
    simp [denL, SV.den, BE.den, IE.den, nth, vint, Ntc.valid, validI, bitI, e]
  · have ht' : t = 1 := ht1
    subst ht'
    refine den_start1 fun w1 _ => den_leaf ?_
    have e : decide (i ≤ 2) = decide (i < 3) := by congr 1; apply propext; omega
    have ew : IntKind.i64.wrap i = i := by rw [IntKind.wrap_i64]; omega
    simp [denL, SV.den, BE.den, IE.den, nth, vint, Ntc.valid, validI, bitI, e, ew]
  · have ht' : t = 2 := ht2
    subst ht'
    refine den_makeMap (ky := .u8) (vy := .i64) (fun v => rfl) (fun w1 m w2 h1 hm hM2 s12 => den_norm (by simp only [List.cons_append, List.nil_append]; rfl) ?_)
    have z1 : w.heap.size ≤ w1.heap.size := h1.base.size
    have lb : b < w1.heap.size := h1.lt (i := 3) (by simp [keys]) rfl
    refine den_update (ky := .u8) (vy := .i64) (.inr rfl) m _ u103 u5 rfl (fun wa ha => hM2.same (shown_same ha)) (fun wa ha => ⟨fun hd => (by cases hd), fun hlt => absurd (show m < w.heap.size from hlt) (by omega), fun hin => by simp [BlkIn, nth, blkOf, vaddr] at hin; omega, fun hx => by cases hx⟩) (fun w3 w4 h3 hM4 k34 => ?_)
    refine den_update (ky := .u8) (vy := .i64) (.inr rfl) m _ u103 u5 rfl (fun wa ha => hM4.same (shown_same ha)) (fun wa ha => ⟨fun hd => (by cases hd), fun hlt => absurd (show m < w.heap.size from hlt) (by omega), fun hin => by simp [BlkIn, nth, blkOf, vaddr] at hin; omega, fun hx => by cases hx⟩) (fun w5 w6 h5 hM6 k56 => ?_)
    refine den_update (ky := .u8) (vy := .i64) (.inr rfl) m _ u103 u5 rfl (fun wa ha => hM6.same (shown_same ha)) (fun wa ha => ⟨fun hd => (by cases hd), fun hlt => absurd (show m < w.heap.size from hlt) (by omega), fun hin => by simp [BlkIn, nth, blkOf, vaddr] at hin; omega, fun hx => by cases hx⟩) (fun w7 w8 h7 hM8 k78 => ?_)
    refine den_update (ky := .u8) (vy := .i64) (.inr rfl) m _ u103 u5 rfl (fun wa ha => hM8.same (shown_same ha)) (fun wa ha => ⟨fun hd => (by cases hd), fun hlt => absurd (show m < w.heap.size from hlt) (by omega), fun hin => by simp [BlkIn, nth, blkOf, vaddr] at hin; omega, fun hx => by cases hx⟩) (fun w9 w10 h9 hM10 k910 => ?_)
    refine den_update (ky := .u8) (vy := .i64) (.inr rfl) m _ u103 u5 rfl (fun wa ha => hM10.same (shown_same ha)) (fun wa ha => ⟨fun hd => (by cases hd), fun hlt => absurd (show m < w.heap.size from hlt) (by omega), fun hin => by simp [BlkIn, nth, blkOf, vaddr] at hin; omega, fun hx => by cases hx⟩) (fun w11 w12 h11 hM12 k1112 => ?_)
    refine den_lookup (ky := .u8) (vy := .i64) m bitM u103 u5 z3 rfl (fun wa ha => hM12.same (shown_same ha)) (fun v u => rfl) (fun v u => rfl) (fun w13 w14 h13 h14 => den_norm (by simp only [List.cons_append, List.nil_append]; rfl) (den_leaf ?_))
    have e := bitM_eq i
    simp [denL, SV.den, BE.den, IE.den, nth, vint, vbool, Ntc.valid, validI, bitI, e.1, e.2]
  · have ht' : t = 6 := ht3
    subst ht'
    refine den_start1 fun w1 _ => den_leaf ?_
    have e : decide (i ≤ 1) = decide (i < 2) := by congr 1; apply propext; omega
    simp [denL, SV.den, BE.den, IE.den, nth, vint, Ntc.valid, validI, bitI, e]
  · have e0 : t ≠ 0 := ht
    have e1 : t ≠ 1 := ht1
    have e2 : t ≠ 2 := ht2
    have e3 : t ≠ 6 := ht3
    refine den_leaf ?_
    simp [denL, SV.den, BE.den, IE.den, nth, vint, Ntc.valid, validI, bitI, e0, e1, e2, e3]
theorem c12 (n : Ntc) (h : n.Ok) (w : World) : Gives Try.prog 12 [n.v] w (.bool n.valid) := by
  have h31 := c31 n h
  obtain ⟨t, i, p⟩ := n
  refine gives mix t12 rfl rfl (ε := [.int .u8 t, .int .u8 i, .int .u8 p]) ⟨⟨_, rfl⟩, ⟨_, rfl⟩, ⟨_, rfl⟩, trivial⟩ (den_blk fun b _ _ _ => den_norm (by simp only [List.cons_append, List.nil_append]; rfl) ?_)
  exact den_call [.int .i64 (bitI t i), .bool (Ntc.valid ⟨t, i, p⟩)] ⟨⟨_, rfl⟩, ⟨_, rfl⟩, trivial⟩ rfl (fun w1 _ => h31 w1) (fun w1 w2 _ _ => den_norm (by simp only [List.cons_append, List.nil_append]; rfl) (den_leaf rfl))
theorem bit_range {t i : Int} (h : validI t i = true) (hi : 0 ≤ i) : bitI t i = 32 ∨ (0 ≤ bitI t i ∧ bitI t i ≤ 31) := by
  unfold validI at h
  unfold bitI
  split
  · exact .inl rfl
  split
  · rename_i h1 h2
    rw [if_neg h1, if_pos h2] at h
    have := of_decide_eq_true h
    omega
  split
  · exact .inr (by repeat' split
                   all_goals omega)
  split
  · exact .inl rfl
  · omega
theorem shr_eq {c b : Int} (hc : 0 ≤ c ∧ c < 4294967296) (hb : 0 ≤ b ∧ b ≤ 31) : c.fdiv (2 ^ (Min.min b.toNat 32)) = c / 2 ^ b.toNat ∧ 0 ≤ c / 2 ^ b.toNat ∧ c / 2 ^ b.toNat < 4294967296 := by
  have e : Min.min b.toNat 32 = b.toNat := Nat.min_eq_left (by omega)
  have hp : (0 : Int) < 2 ^ b.toNat := Int.pow_pos (by decide)
  rw [e, Int.fdiv_eq_ediv_of_nonneg _ (Int.le_of_lt hp)]
  refine ⟨rfl, Int.ediv_nonneg hc.1 (Int.le_of_lt hp), ?_⟩
  have := Int.ediv_le_self (2 ^ b.toNat) hc.1
  omega
theorem c14 (n : Ntc) (h : n.Ok) (c : Int) (hc : 0 ≤ c ∧ c < 4294967296) (w : World) : Gives Try.prog 14 [n.v, .int .u32 c] w (.bool (enI n.t n.i c)) := by
  have h31 := c31 n h
  have hi := h.i.1
  obtain ⟨t, i, p⟩ := n
  refine gives mix t14 rfl rfl (ε := [.int .u8 t, .int .u8 i, .int .u8 p, .int .u32 c]) ⟨⟨_, rfl⟩, ⟨_, rfl⟩, ⟨_, rfl⟩, ⟨_, rfl⟩, trivial⟩ (den_blk fun b _ _ _ => den_norm (by simp only [List.cons_append, List.nil_append]; rfl) ?_)
  refine den_call [.int .i64 (bitI t i), .bool (validI t i)] ⟨⟨_, rfl⟩, ⟨_, rfl⟩, trivial⟩ rfl (fun w1 _ => h31 w1) (fun w1 w2 _ _ => den_norm (by simp only [List.cons_append, List.nil_append]; rfl) (den_split (fun hv => ?_) (fun hv => ?_)))
  · have hv' : validI t i = true := hv
    have hb := bit_range hv' hi
    refine den_splitEq (fun h32 => ?_) (fun h32 => ?_)
    · have h32' : bitI t i = 32 := h32
      refine den_leaf ?_
      simp [denL, SV.den, BE.den, enI, hv', h32']
    · have h32' : bitI t i ≠ 32 := h32
      have hb' : 0 ≤ bitI t i ∧ bitI t i ≤ 31 := by omega
      obtain ⟨e1, e2, e3⟩ := shr_eq hc hb'
      refine den_ob (show decide (0 ≤ bitI t i) = true from decide_eq_true hb'.1) (den_leaf ?_)
      show [Value.bool (decide (bitv .and .u32 (c.fdiv (2 ^ (Min.min (bitI t i).toNat 32))) 1 = 1))] = _
      rw [e1, and_one e2 e3]
      simp [enI, hv', h32']
  · have hv' : validI t i = false := hv
    refine den_leaf ?_
    simp [denL, SV.den, BE.den, enI, hv']
theorem tmod2 {x : Int} (h : 0 ≤ x) : x.tmod 2 = x % 2 := Int.tmod_eq_emod_of_nonneg h
theorem c15 (n : Ntc) (h : n.Ok) (c : Int) (hc : 0 ≤ c ∧ c < 4294967296) (w : World) : Gives Try.prog 15 [n.v, .int .u32 c] w (.bool (enI n.t n.i c)) := by
  have h13 := c13 n
  have hi := h.i
  obtain ⟨t, i, p⟩ := n
  dsimp only at hi
  refine gives mix t15 rfl rfl (ε := [.int .u8 t, .int .u8 i, .int .u8 p, .int .u32 c]) ⟨⟨_, rfl⟩, ⟨_, rfl⟩, ⟨_, rfl⟩, ⟨_, rfl⟩, trivial⟩ (den_blk fun b _ _ _ => den_norm (by simp only [List.cons_append, List.nil_append]; rfl) ?_)
  have ew : IntKind.i64.wrap i = i := by rw [IntKind.wrap_i64]; omega
  have one : ∀ {b : Int}, 0 ≤ b → b ≤ 31 → decide ((c.fdiv (2 ^ (Min.min b.toNat 32))).tmod 2 = 1) = decide (c / 2 ^ b.toNat % 2 = 1) := fun {b} h0 h1 => by
    obtain ⟨e1, e2, e3⟩ := shr_eq hc ⟨h0, h1⟩
    rw [e1, tmod2 e2]
  refine den_call_bool (b := validI t i) (fun w1 _ => h13 w1) rfl (fun w1 w2 _ _ => den_norm (by simp only [List.cons_append, List.nil_append]; rfl) (den_splitNot (fun hv => ?_) (fun hv => ?_)))
  · have hv' : validI t i = false := by simpa [BE.den, nth, vbool] using hv
    refine den_leaf ?_
    simp [denL, SV.den, BE.den, enI, hv']
  have hv' : validI t i = true := by simpa [BE.den, nth, vbool] using hv
  refine den_splitEq (fun h1 => ?_) (fun h1 => den_splitEq (fun h2 => ?_) (fun h2 => ?_))
  · have h1' : t = 1 := h1
    subst h1'
    have hi3 : i < 3 := by simpa [validI] using hv'
    refine den_ob (show decide (0 ≤ IntKind.i64.wrap i) = true from by rw [ew]; exact decide_eq_true hi.1) (den_leaf ?_)
    show [Value.bool (decide ((c.fdiv (2 ^ (Min.min (IntKind.i64.wrap i).toNat 32))).tmod 2 = 1))] = _
    rw [ew, one hi.1 (by omega)]
    have : i ≠ 32 := by omega
    simp [enI, hv', bitI, this]
  · have h2' : t = 2 := h2
    subst h2'
    refine den_splitEq (fun h3 => ?_) (fun h3 => den_splitEq (fun h4 => ?_) (fun h4 => ?_))
    · have h3' : i = 239 := h3
      subst h3'
      refine den_leaf ?_
      show [Value.bool (decide ((c.fdiv (2 ^ (Min.min (27 : Int).toNat 32))).tmod 2 = 1))] = _
      rw [one (by decide) (by decide)]
      simp [enI, hv', bitI]
    · have h4' : i = 240 := h4
      subst h4'
      refine den_leaf ?_
      show [Value.bool (decide ((c.fdiv (2 ^ (Min.min (31 : Int).toNat 32))).tmod 2 = 1))] = _
      rw [one (by decide) (by decide)]
      simp [enI, hv', bitI]
    · have h3' : i ≠ 239 := h3
      have h4' : i ≠ 240 := h4
      have hi3 : i = 0 ∨ i = 1 ∨ i = 3 := by
        have : ((i = 0 ∨ i = 1) ∨ i = 3) ∨ i = 239 ∨ i = 240 := by
          have := hv'
          simp only [validI, Bool.or_eq_true, decide_eq_true_eq] at this
          simp at this
          omega
        omega
      refine den_ob64 (by simp only [IE.den, nth, vint]; rw [ew]; omega) (den_ob (show decide (0 ≤ 8 + IntKind.i64.wrap i) = true from by rw [ew]; exact decide_eq_true (by omega)) (den_leaf ?_))
      show [Value.bool (decide ((c.fdiv (2 ^ (Min.min (8 + IntKind.i64.wrap i).toNat 32))).tmod 2 = 1))] = _
      rw [ew, one (by omega) (by omega)]
      rcases hi3 with rfl | rfl | rfl <;> simp [enI, hv', bitI]
  · have h1' : t ≠ 1 := h1
    have h2' : t ≠ 2 := h2
    refine den_leaf ?_
    have : bitI t i = 32 := by
      unfold bitI
      unfold validI at hv'
      split
      · rfl
      · rename_i h0
        rw [if_neg h0, if_neg h1', if_neg h2'] at hv'
        split
        · rfl
        · rename_i h6
          rw [if_neg h6] at hv'
          cases hv'
    simp [denL, SV.den, BE.den, enI, hv', this]
/-- a status: type, code, more, never -/
def stV (t c : Int) (mo ne : Bool) : Value := .agg #[.int .u8 t, .int .u8 c, .bool mo, .bool ne]
theorem c38 (t c : Int) (mo ne : Bool) (ht : 0 ≤ t ∧ t ≤ 255) (hc : 0 ≤ c ∧ c ≤ 255) (w : World) : Gives Try.prog 38 [stV t c mo ne] w (.int .i64 (256 * t + c)) := by
  refine gives mix t38 rfl rfl (ε := [.int .u8 t, .int .u8 c, .bool mo, .bool ne]) ⟨⟨_, rfl⟩, ⟨_, rfl⟩, ⟨_, rfl⟩, ⟨_, rfl⟩, trivial⟩ (den_blk fun b _ _ _ => den_norm (by simp only [List.cons_append, List.nil_append]; rfl) ?_)
  have e1 : IntKind.i64.wrap t = t := by rw [IntKind.wrap_i64]; omega
  have e2 : IntKind.i64.wrap c = c := by rw [IntKind.wrap_i64]; omega
  refine den_ob64 (by simp only [IE.den, nth, vint]; rw [e1]; omega) (den_ob64 (by simp only [IE.den, nth, vint]; rw [e1, e2]; omega) (den_leaf ?_))
  simp only [denL, SV.den, IE.den, nth, vint]
  rw [e1, e2]
def isI (t c : Int) (mo ne : Bool) (code : Int) : Bool := decide (256 * t + c = code) && (!mo && !ne)
theorem c19 (t c : Int) (mo ne : Bool) (code : Int) (ht : 0 ≤ t ∧ t ≤ 255) (hc : 0 ≤ c ∧ c ≤ 255) (w : World) : Gives Try.prog 19 [stV t c mo ne, .int .i64 code] w (.bool (isI t c mo ne code)) := by
  refine gives mix t19 rfl rfl (ε := [.int .u8 t, .int .u8 c, .bool mo, .bool ne, .int .i64 code]) ⟨⟨_, rfl⟩, ⟨_, rfl⟩, ⟨_, rfl⟩, ⟨_, rfl⟩, ⟨_, rfl⟩, trivial⟩ (den_blk fun b _ _ _ => den_norm (by simp only [List.cons_append, List.nil_append]; rfl) ?_)
  refine den_call_int (x := 256 * t + c) (fun w1 _ => c38 t c mo ne ht hc w1) rfl (fun w1 w2 _ _ => den_norm (by simp only [List.cons_append, List.nil_append]; rfl) (den_splitEq (fun h1 => ?_) (fun h1 => ?_)))
  · have h1' : 256 * t + c = code := h1
    refine den_splitNot (fun h2 => den_leaf ?_) (fun h2 => den_leaf ?_)
    · have h2' : mo = false := h2
      simp [denL, SV.den, BE.den, nth, vbool, isI, h1', h2']
    · have h2' : mo = true := h2
      simp [denL, SV.den, BE.den, nth, vbool, isI, h1', h2']
  · have h1' : 256 * t + c ≠ code := h1
    refine den_leaf ?_
    simp [denL, SV.den, BE.den, isI, h1']
end Go.Proofs.Ytfjlnfgbfclgbaa
