/-
  THE PLAIN LAW, chapter 9: class sets as predicates; the reference's set of a class.
-/
import Derived.Test.YtaadjlpfdajggaaGreatDoorFoTab
import Derived.Test.YtaadjlpfdajggaaGreatDoorFoPure0
import Derived.Test.YtaadjlpfdajggaaGreatDoorLaw2
set_option maxRecDepth 100000
set_option linter.unusedVariables false
set_option linter.unusedSimpArgs false
namespace Go.Proofs.YtaadjlpfdajggaaGreatDoor
open Go Go.AM

/-- The set of all i with P i. -/
def W (P : Nat → Bool) : class_Set := ⟨⟨[wd P 0, wd P 1, wd P 2, wd P 3], rfl⟩⟩
theorem quo64 {c : Nat} (h : c < 256) : quoO .u8 (c : Int) 64 = some ((c / 64 : Nat) : Int) := by
  simp only [quoO, show ¬ ((64 : Int) = 0) by decide, if_false]
  rw [Int.tdiv_eq_ediv_of_nonneg (by omega), wrap_u8 (by omega) (by omega)]
  simp
theorem rem64 {c : Nat} : remO (c : Int) 64 = some ((c % 64 : Nat) : Int) := by
  simp only [remO, show ¬ ((64 : Int) = 0) by decide, if_false]
  rw [Int.tmod_eq_emod_of_nonneg (by omega)]
  simp
theorem shr_W {x : Int} {m : Nat} (h : m < 64) : shrO .u64 x (m : Int) = some (x.fdiv (2 ^ m)) := by
  rw [shrO, if_pos (by omega)]
  have e : min ((m : Int)).toNat IntKind.u64.bits = m := by
    have : IntKind.u64.bits = 64 := rfl
    omega
  rw [e]
theorem nth_W (P : Nat → Bool) {j : Nat} (h : j < 4) : (W P).f_W.nth j = wd P j := by
  match j, h with
  | 0, _ => rfl
  | 1, _ => rfl
  | 2, _ => rfl
  | 3, _ => rfl
theorem has_W {n : Nat} (P : Nat → Bool) {c : Int} (h : 1 ≤ n) (h0 : 0 ≤ c) (h1 : c < 256) : m_class_Set_Has n (W P) c = some (P c.toNat) := by
  obtain ⟨n, rfl⟩ : ∃ m, n = m + 1 := ⟨n - 1, by omega⟩
  obtain ⟨c, rfl⟩ : ∃ m : Nat, c = m := ⟨c.toNat, by omega⟩
  show b_class_Set_Has n _ _ = _
  unfold b_class_Set_Has
  have hq : c / 64 < 4 := by omega
  have hm : c % 64 < 64 := Nat.mod_lt _ (by decide)
  rw [quo64 (by omega), Option.bind_some, ck_ok hq, Option.bind_some, rem64, Option.bind_some, shr_W hm, Option.bind_some, nth_W P hq, has_wd _ _ _ hm]
  simp [show 64 * (c / 64) + c % 64 = c by omega]

/-- Every class is the set of some predicate. -/
theorem W_of (s : class_Set) (h : ∀ x ∈ s.f_W.l, InK .u64 x) : ∃ P, s = W P := by
  obtain ⟨⟨l, hl⟩⟩ := s
  match l, hl, h with
  | [p, q, r, u], hl, h =>
    have one : ∀ x : Int, InK .u64 x → ∃ f : Nat → Bool, ∀ (P : Nat → Bool) (j : Nat), (∀ i, i < 64 → P (64 * j + i) = f i) → wd P j = x := fun x hx => by
      have hx1 : 0 ≤ x := hx.1
      have hx2 : x ≤ 18446744073709551615 := hx.2
      refine ⟨fun i => x.toNat.testBit i, fun P j hP => ?_⟩
      have : x.toNat = bin 64 fun i => P (64 * j + i) := bin_ext (by omega) fun i hi => (hP i hi).symm
      rw [wd, ← this]
      omega
    obtain ⟨f0, h0⟩ := one p (h p (by simp))
    obtain ⟨f1, h1⟩ := one q (h q (by simp))
    obtain ⟨f2, h2⟩ := one r (h r (by simp))
    obtain ⟨f3, h3⟩ := one u (h u (by simp))
    refine ⟨fun i => if i < 64 then f0 i else if i < 128 then f1 (i - 64) else if i < 192 then f2 (i - 128) else f3 (i - 192), ?_⟩
    unfold W
    rw [h0 _ 0 fun i hi => ?_, h1 _ 1 fun i hi => ?_, h2 _ 2 fun i hi => ?_, h3 _ 3 fun i hi => ?_]
    · show (if 64 * 3 + i < 64 then f0 (64 * 3 + i) else if 64 * 3 + i < 128 then f1 (64 * 3 + i - 64) else if 64 * 3 + i < 192 then f2 (64 * 3 + i - 128) else f3 (64 * 3 + i - 192)) = f3 i
      rw [if_neg (show ¬ 64 * 3 + i < 64 by omega), if_neg (show ¬ 64 * 3 + i < 128 by omega), if_neg (show ¬ 64 * 3 + i < 192 by omega), show 64 * 3 + i - 192 = i by omega]
    · show (if 64 * 2 + i < 64 then f0 (64 * 2 + i) else if 64 * 2 + i < 128 then f1 (64 * 2 + i - 64) else if 64 * 2 + i < 192 then f2 (64 * 2 + i - 128) else f3 (64 * 2 + i - 192)) = f2 i
      rw [if_neg (show ¬ 64 * 2 + i < 64 by omega), if_neg (show ¬ 64 * 2 + i < 128 by omega), if_pos (show 64 * 2 + i < 192 by omega), show 64 * 2 + i - 128 = i by omega]
    · show (if 64 * 1 + i < 64 then f0 (64 * 1 + i) else if 64 * 1 + i < 128 then f1 (64 * 1 + i - 64) else if 64 * 1 + i < 192 then f2 (64 * 1 + i - 128) else f3 (64 * 1 + i - 192)) = f1 i
      rw [if_neg (show ¬ 64 * 1 + i < 64 by omega), if_pos (show 64 * 1 + i < 128 by omega), show 64 * 1 + i - 64 = i by omega]
    · show (if 64 * 0 + i < 64 then f0 (64 * 0 + i) else if 64 * 0 + i < 128 then f1 (64 * 0 + i - 64) else if 64 * 0 + i < 192 then f2 (64 * 0 + i - 128) else f3 (64 * 0 + i - 192)) = f0 i
      rw [if_pos (show 64 * 0 + i < 64 by omega), show 64 * 0 + i = i by omega]

/-- The reference's set, its first i elements laid. -/
def RS (P : Nat → Bool) (i : Nat) : ref01_Set := ⟨⟨(List.range 256).map fun j => decide (j < i) && P j, by simp⟩⟩
theorem RS_nth (P : Nat → Bool) {j : Nat} (h : j < 256) : (RS P 256).f_In.nth j = P j := by
  simp [RS, Arr.nth, List.getD_eq_getElem?_getD, h]
theorem RS_zero0 : ref01_Set.zero = RS (fun _ => false) 0 := by kernel_rfl
theorem RS_zero (P : Nat → Bool) : ref01_Set.zero = RS P 0 := RS_zero0.trans (by simp [RS])
theorem RS_put (P : Nat → Bool) {i : Nat} (h : i < 256) {b : Bool} (hb : b = P i) : ({ RS P i with f_In := (RS P i).f_In.put i b } : ref01_Set) = RS P (i + 1) := by
  subst hb
  simp only [RS, Arr.put, ref01_Set.mk.injEq, Arr.mk.injEq]
  apply List.ext_getElem?
  intro j
  rw [List.getElem?_set]
  simp only [List.length_map, List.length_range, List.getElem?_map]
  by_cases hj : i = j
  · subst hj
    simp [h]
  · rw [if_neg hj]
    by_cases hj2 : j < 256
    · simp only [List.getElem?_range hj2, Option.map_some]
      congr 1
      have : decide (j < i) = decide (j < i + 1) := by
        by_cases h1 : j < i
        · simp [h1]; omega
        · have : ¬ j < i + 1 := by omega
          simp [h1, this]
      rw [this]
    · simp [List.getElem?_eq_none (show (List.range 256).length ≤ j by simp; omega)]

theorem half {v : Nat} (h : v < 2 ^ 64) : quoO .u64 (v : Int) 2 = some ((v / 2 : Nat) : Int) := by
  simp only [quoO, show ¬ ((2 : Int) = 0) by decide, if_false]
  rw [Int.tdiv_eq_ediv_of_nonneg (by omega), show ((v : Int) / 2) = ((v / 2 : Nat) : Int) by omega, u64_nat (by omega)]
theorem odd2 {v : Nat} : remO (v : Int) 2 = some ((v % 2 : Nat) : Int) := by
  simp only [remO, show ¬ ((2 : Int) = 0) by decide, if_false]
  rw [Int.tmod_eq_emod_of_nonneg (by omega)]
  simp
theorem quoI {i : Nat} (h : i < 256) : quoO .i64 (i : Int) 64 = some ((i / 64 : Nat) : Int) := by
  simp only [quoO, show ¬ ((64 : Int) = 0) by decide, if_false]
  rw [Int.tdiv_eq_ediv_of_nonneg (by omega), w64 (by omega) (by omega)]
  simp

theorem of_2 {n : Nat} (q : Arr Int 4 → ref01_Set → ref01_Set → Int → Option ref01_Set) (a : Arr Int 4) (z s : ref01_Set) {i : Nat} (hi : i < 256) : ∀ (d k j v : Nat), j + d = i % 64 → d < k → v < 2 ^ 64 →
    b_ref01_Of_2 n q k a z s (i : Int) (v : Int) (j : Int) = q a z { s with f_In := s.f_In.put i ((v / 2 ^ d).testBit 0) } ((i + 1 : Nat) : Int)
  | 0, k + 1, j, v, hj, hk, hv => by
    rw [b_ref01_Of_2.eq_2, rem64, Option.bind_some]
    have hc : decide ((j : Int) < ((i % 64 : Nat) : Int)) = false := by simp; omega
    rw [hc, cond_false, odd2, Option.bind_some, ck_ok hi, Option.bind_some, wp1 (by omega)]
    have : decide (((v % 2 : Nat) : Int) = 1) = (v / 2 ^ 0).testBit 0 := by
      rw [Nat.testBit_zero]
      simp only [Nat.pow_zero, Nat.div_one]
      by_cases h : v % 2 = 1
      · simp [h]
      · have h0 : v % 2 = 0 := by omega
        simp [h0]
    rw [this]
  | d + 1, k + 1, j, v, hj, hk, hv => by
    rw [b_ref01_Of_2.eq_2, rem64, Option.bind_some]
    have hc : decide ((j : Int) < ((i % 64 : Nat) : Int)) = true := by simp; omega
    rw [hc, cond_true, half hv, Option.bind_some, wp1 (by omega), of_2 q a z s hi d k (j + 1) (v / 2) (by omega) (by omega) (by omega), Nat.div_div_eq_div_mul, Nat.pow_succ, Nat.mul_comm 2]

theorem of_1 {n : Nat} (P : Nat → Bool) (z : ref01_Set) (hn : 70 ≤ n) : ∀ (d k i : Nat), i + d = 256 → d < k → b_ref01_Of_1 n k (W P).f_W z (RS P i) (i : Int) = some (RS P 256)
  | 0, k + 1, i, hi, hk => by
    rw [b_ref01_Of_1.eq_2]
    have hc : decide ((i : Int) < 256) = false := by simp; omega
    rw [hc, cond_false]
    have : i = 256 := by omega
    rw [this]
  | d + 1, k + 1, i, hi, hk => by
    rw [b_ref01_Of_1.eq_2]
    have hc : decide ((i : Int) < 256) = true := by simp; omega
    have hq : i / 64 < 4 := by omega
    rw [hc, cond_true, quoI (by omega), Option.bind_some, ck_ok hq, Option.bind_some, nth_W P hq]
    have hm : i % 64 < 64 := Nat.mod_lt _ (by decide)
    rw [wd, show (0 : Int) = ((0 : Nat) : Int) from rfl, of_2 _ _ _ _ (by omega) (i % 64) n 0 _ (by omega) (by omega) (bin_lt _ _)]
    rw [RS_put P (by omega)]
    · exact of_1 P z hn d k (i + 1) (by omega) (by omega)
    · rw [Nat.testBit_div_two_pow, Nat.zero_add, bin_bit]
      simp [hm, show 64 * (i / 64) + i % 64 = i by omega]

theorem of_W {n : Nat} (P : Nat → Bool) (hn : 300 ≤ n) : m_ref01_Of n (W P).f_W = some (RS P 256) := by
  obtain ⟨n, rfl⟩ : ∃ m, n = m + 1 := ⟨n - 1, by omega⟩
  show b_ref01_Of n _ = _
  rw [b_ref01_Of, RS_zero P]
  exact of_1 P _ (by omega) 256 n 0 (by omega) (by omega)
end Go.Proofs.YtaadjlpfdajggaaGreatDoor
