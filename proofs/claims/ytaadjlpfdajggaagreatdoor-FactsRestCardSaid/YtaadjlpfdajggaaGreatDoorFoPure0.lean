/-
  THE PLAIN LAW, part 0: texts as lists of bytes; the partial operations that a mirror has, on lists. Nothing of the program is used.
-/
import Derived.Test.YtaadjlpfdajggaaGreatDoorAm22
set_option linter.unusedVariables false
set_option linter.unusedSimpArgs false
namespace Go.AM
open Go

/-- A text's bytes. -/
abbrev B (s : ByteArray) : List Int := bytesOf s

theorem B_len (s : ByteArray) : (B s).length = s.size := by simp [B, bytesOf]
theorem B_rng {s : ByteArray} {c : Int} (h : c ∈ B s) : 0 ≤ c ∧ c < 256 := by
  simp only [B, bytesOf, List.mem_map] at h
  obtain ⟨b, _, rfl⟩ := h
  have := b.toNat_lt
  omega
theorem B_inj {s u : ByteArray} (h : B s = B u) : s = u := by
  obtain ⟨⟨s⟩⟩ := s
  obtain ⟨⟨u⟩⟩ := u
  simp only [B, bytesOf] at h
  have : s = u := by
    induction s generalizing u with
    | nil => cases u with
      | nil => rfl
      | cons a l => simp at h
    | cons a l ih => cases u with
      | nil => simp at h
      | cons b m =>
        simp only [List.map_cons, List.cons.injEq] at h
        have h1 : a = b := UInt8.toNat_inj.1 (by omega)
        rw [h1, ih m h.2]
  rw [this]
theorem B_iff {s u : ByteArray} : s = u ↔ B s = B u := ⟨fun h => by rw [h], B_inj⟩
theorem bt_eq {s : ByteArray} {i : Int} (h : 0 ≤ i) : bt s i = (B s)[i.toNat]? := by
  simp only [bt, h, if_true, B, bytesOf, List.getElem?_map]
theorem bt_nat (s : ByteArray) (i : Nat) : bt s (i : Int) = (B s)[i]? := by rw [bt_eq (by omega)]; simp
theorem B_extract (s : ByteArray) (a b : Nat) : B (s.extract a b) = ((B s).drop a).take (b - a) := by
  simp [B, bytesOf, ByteArray.data_extract, Array.toList_extract, List.extract, List.map_take, List.map_drop]
theorem sub_eq {s : ByteArray} {a b : Nat} (h : a ≤ b) (h' : b ≤ s.size) : ∃ u, sub s a b = some u ∧ B u = ((B s).drop a).take (b - a) := by
  refine ⟨_, if_pos (by omega), ?_⟩
  rw [show ((a : Int)).toNat = a by omega, show ((b : Int)).toNat = b by omega, B_extract]
theorem sub_tail {s : ByteArray} {a : Nat} (h : a ≤ s.size) : ∃ u, sub s a s.size = some u ∧ B u = (B s).drop a := by
  obtain ⟨u, h1, h2⟩ := sub_eq h (Nat.le_refl _)
  refine ⟨u, h1, h2.trans ?_⟩
  rw [List.take_of_length_le (by rw [List.length_drop, B_len]; omega)]
theorem B_append (s u : ByteArray) : B (s ++ u) = B s ++ B u := by simp [B, bytesOf, ByteArray.data_append]
theorem sadd_eq {s u : ByteArray} (h : s.size + u.size < 9000000000000000000) : sadd s u = some (s ++ u) := if_pos (by simp only [show IntKind.i64.max = 9223372036854775807 from rfl]; omega)
theorem B_strOf {l : List Int} (h : ∀ x ∈ l, 0 ≤ x ∧ x < 256) : B (strOf (some l)) = l := by
  simp only [B, bytesOf, strOf, Sl.l, List.map_map]
  conv => rhs; rw [← List.map_id l]
  refine List.map_congr_left fun x hx => ?_
  have := h x hx
  simp [Function.comp, UInt8.toNat_ofNat']
  omega
theorem B_lit (l : List UInt8) : B ⟨⟨l⟩⟩ = l.map fun b => (b.toNat : Int) := rfl
theorem B_nil {s : ByteArray} : s = ⟨#[]⟩ ↔ B s = [] := by rw [B_iff]; rfl

theorem bind_some {α β : Type} (a : α) (f : α → Option β) : (some a).bind f = f a := rfl
theorem bind_none {α β : Type} (f : α → Option β) : (none : Option α).bind f = none := rfl
theorem ck_ok {n : Nat} {i : Nat} (h : i < n) : ck n (i : Int) = some i := by
  rw [ck, if_pos (by omega)]; simp
theorem ck_int {n : Nat} {i : Int} (h : 0 ≤ i) (h' : i < n) : ck n i = some i.toNat := if_pos ⟨h, h'⟩
theorem w64 {n : Int} (h : -9223372036854775808 ≤ n) (h' : n < 9223372036854775808) : IntKind.i64.wrap n = n := wrap_i64 h h'

theorem wp1 {j : Nat} (h : j < 1000000) : IntKind.i64.wrap ((j : Int) + 1) = ((j + 1 : Nat) : Int) := by rw [w64 (by omega) (by omega)]; omega

/-! ### a word of bits -/

/-- The number whose bits are f's from 0 on. -/
def bin : Nat → (Nat → Bool) → Nat
  | 0, _ => 0
  | n + 1, f => 2 * bin n (fun i => f (i + 1)) + (f 0).toNat

theorem bin_lt (n : Nat) (f : Nat → Bool) : bin n f < 2 ^ n := by
  induction n generalizing f with
  | zero => simp [bin]
  | succ n ih =>
    have := ih (fun i => f (i + 1))
    rw [bin, Nat.pow_succ]
    cases f 0 <;> simp <;> omega
theorem bin_bit (n : Nat) (f : Nat → Bool) (i : Nat) : (bin n f).testBit i = (decide (i < n) && f i) := by
  induction n generalizing f i with
  | zero => simp [bin]
  | succ n ih =>
    cases i with
    | zero => rw [bin, Nat.testBit_zero]; cases f 0 <;> simp [Nat.add_mod, Nat.mul_mod_right]
    | succ i =>
      rw [bin, Nat.testBit_succ, show (2 * bin n (fun i => f (i + 1)) + (f 0).toNat) / 2 = bin n (fun i => f (i + 1)) by cases f 0 <;> simp <;> omega, ih]
      simp
theorem bin_ext {n : Nat} {x : Nat} {f : Nat → Bool} (hx : x < 2 ^ n) (h : ∀ i, i < n → x.testBit i = f i) : x = bin n f := by
  refine Nat.eq_of_testBit_eq fun i => ?_
  rw [bin_bit]
  by_cases hi : i < n
  · simp [hi, h i hi]
  · simp only [hi, decide_false, Bool.false_and]
    exact Nat.testBit_lt_two_pow (Nat.lt_of_lt_of_le hx (Nat.pow_le_pow_right (by omega) (by omega)))
theorem bin_congr {n : Nat} {f g : Nat → Bool} (h : ∀ i, i < n → f i = g i) : bin n f = bin n g := bin_ext (bin_lt n f) fun i hi => by rw [bin_bit]; simp [hi, h i hi]

/-- The word of a set's elements 64j .. 64j + 63. -/
def wd (P : Nat → Bool) (j : Nat) : Int := (bin 64 fun i => P (64 * j + i) : Nat)

theorem ofInt_nat (k : Nat) (x : Nat) : (BitVec.ofInt k (x : Int)).toNat = x % 2 ^ k := by simp
theorem u64_nat {x : Nat} (h : x < 2 ^ 64) : IntKind.u64.wrap (x : Int) = (x : Int) := by
  simp only [IntKind.wrap, IntKind.signed, IntKind.bits, Bool.false_and, Bool.false_eq_true, if_false]
  omega
theorem orI_nat {x y : Nat} (hx : x < 2 ^ 64) (hy : y < 2 ^ 64) : orI .u64 x y = ((x ||| y : Nat) : Int) := by
  have e : (BitVec.ofInt IntKind.u64.bits (x : Int) ||| BitVec.ofInt IntKind.u64.bits (y : Int)).toNat = x ||| y := by
    rw [BitVec.toNat_or, ofInt_nat, ofInt_nat, show IntKind.u64.bits = 64 from rfl, Nat.mod_eq_of_lt hx, Nat.mod_eq_of_lt hy]
  rw [orI, e, u64_nat (Nat.or_lt_two_pow hx hy)]
theorem andI_nat {x y : Nat} (hx : x < 2 ^ 64) (hy : y < 2 ^ 64) : andI .u64 x y = ((x &&& y : Nat) : Int) := by
  have e : (BitVec.ofInt IntKind.u64.bits (x : Int) &&& BitVec.ofInt IntKind.u64.bits (y : Int)).toNat = x &&& y := by
    rw [BitVec.toNat_and, ofInt_nat, ofInt_nat, show IntKind.u64.bits = 64 from rfl, Nat.mod_eq_of_lt hx, Nat.mod_eq_of_lt hy]
  rw [andI, e, u64_nat (Nat.and_lt_two_pow _ hy)]
theorem comI_nat {x : Nat} (hx : x < 2 ^ 64) : comI .u64 x = ((x ^^^ (2 ^ 64 - 1) : Nat) : Int) := by
  have h1 : (18446744073709551615 : Nat) < 2 ^ 64 := by decide
  have e : (BitVec.ofInt IntKind.u64.bits ((18446744073709551615 : Nat) : Int) ^^^ BitVec.ofInt IntKind.u64.bits (x : Int)).toNat = x ^^^ 18446744073709551615 := by
    rw [BitVec.toNat_xor, ofInt_nat, ofInt_nat, show IntKind.u64.bits = 64 from rfl, Nat.mod_eq_of_lt hx, Nat.mod_eq_of_lt h1, Nat.xor_comm]
  show xorI .u64 ((18446744073709551615 : Nat) : Int) x = _
  rw [xorI, e, u64_nat (Nat.xor_lt_two_pow hx h1)]
theorem or_wd (P Q : Nat → Bool) (j : Nat) : orI .u64 (wd P j) (wd Q j) = wd (fun i => P i || Q i) j := by
  rw [wd, wd, orI_nat (bin_lt _ _) (bin_lt _ _), wd]
  exact congrArg _ (bin_ext (Nat.or_lt_two_pow (bin_lt _ _) (bin_lt _ _)) fun i hi => by simp [bin_bit, hi])
theorem com_wd (P : Nat → Bool) (j : Nat) : comI .u64 (wd P j) = wd (fun i => !P i) j := by
  rw [wd, comI_nat (bin_lt _ _), wd]
  refine congrArg _ (bin_ext (Nat.xor_lt_two_pow (bin_lt _ _) (by decide)) fun i hi => ?_)
  rw [Nat.testBit_xor, bin_bit, Nat.testBit_two_pow_sub_one]
  simp [hi]
/-- One more bit. -/
theorem add_wd (P : Nat → Bool) (j m : Nat) (h : m < 64) : orI .u64 (wd P j) ((2 ^ m : Nat) : Int) = wd (fun i => P i || i == 64 * j + m) j := by
  have hm : 2 ^ m < 2 ^ 64 := Nat.pow_lt_pow_right (by decide) h
  rw [wd, orI_nat (bin_lt _ _) hm, wd]
  refine congrArg _ (bin_ext (Nat.or_lt_two_pow (bin_lt _ _) hm) fun i hi => ?_)
  rw [Nat.testBit_or, bin_bit, Nat.testBit_two_pow]
  simp only [hi, decide_true, Bool.true_and]
  by_cases e : m = i
  · subst e; simp
  · have h1 : ¬ (64 * j + i = 64 * j + m) := by omega
    have h2 : ¬ (i = m) := by omega
    simp [e, h1, h2]
theorem wd_congr {P Q : Nat → Bool} {j : Nat} (h : ∀ i, 64 * j ≤ i → i < 64 * j + 64 → P i = Q i) : wd P j = wd Q j := by
  unfold wd
  rw [bin_congr fun i hi => h (64 * j + i) (by omega) (by omega)]
theorem has_wd (P : Nat → Bool) (j m : Nat) (h : m < 64) : decide (andI .u64 ((wd P j).fdiv (2 ^ m)) 1 = 1) = P (64 * j + m) := by
  have e : (wd P j).fdiv (2 ^ m) = ((bin 64 (fun i => P (64 * j + i)) / 2 ^ m : Nat) : Int) := by
    rw [wd, Int.fdiv_eq_ediv_of_nonneg _ (by exact Int.le_of_lt (Int.pow_pos (by decide)))]
    simp
  have hb := bin_bit 64 (fun i => P (64 * j + i)) m
  have hl : bin 64 (fun i => P (64 * j + i)) / 2 ^ m < 2 ^ 64 := Nat.lt_of_le_of_lt (Nat.div_le_self _ _) (bin_lt _ _)
  rw [e, show (1 : Int) = ((1 : Nat) : Int) from rfl, andI_nat hl (by decide), Nat.and_one_is_mod]
  rw [Nat.testBit_eq_decide_div_mod_eq] at hb
  simp only [h, decide_true, Bool.true_and] at hb
  rw [← hb]
  simp only [Int.natCast_inj]
end Go.AM
