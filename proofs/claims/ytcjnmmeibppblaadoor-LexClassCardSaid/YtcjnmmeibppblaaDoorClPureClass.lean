/-
  THE PLAIN LAW OF LexClass: the class at a place is the reference's.
-/
import Derived.Test.YtcjnmmeibppblaaDoorClPure7
import Derived.Test.YtcjnmmeibppblaaDoorLaw2
set_option maxRecDepth 100000
set_option linter.unusedVariables false
set_option linter.unusedSimpArgs false
namespace Go.Proofs.YtcjnmmeibppblaaDoor.lexClass
open Go Go.AM

theorem fixed : m_law06_fixed 2000 = some true := by kernel_rfl
theorem pure (x0 : ByteArray) (x1 : Int) (_ : x0.size ≤ maxLen) (_ : InK .i64 x1) : ∃ n, m_law06_LexClass n x0 x1 = some true := by
  refine ⟨2001, ?_⟩
  show b_law06_LexClass (m_law06_fixed 2000) (m_lex_Class 2000) (m_ref06_Class 2000) 2000 x0 x1 = _
  unfold b_law06_LexClass
  have hmin : min ((x0.size : Int)) 200 = ((min x0.size 200 : Nat) : Int) := by omega
  obtain ⟨s, hs, hb⟩ := sub_eq (s := x0) (a := 0) (b := min x0.size 200) (by omega) (by omega)
  have hz : s.size ≤ 200 := by
    have := congrArg List.length hb
    rw [B_len, List.length_take, List.length_drop, B_len] at this
    omega
  rw [hmin, show (0 : Int) = ((0 : Nat) : Int) from rfl, hs, Option.bind_some]
  have fin : ∀ (a b : Arr Int 4) (c d e f : Int), a = b → c = d → e = f → ((bif ((decide (a = b)) && (decide (c = d))) && (decide (e = f)) then ((m_law06_fixed 2000).bind fun v55 => some v55) else some false).bind fun y56 => some y56) = some true := fun a b c d e f h1 h2 h3 => by
    subst h1 h2 h3
    simp only [decide_true, Bool.and_self, cond_true]
    rw [fixed]
    rfl
  by_cases h : 0 ≤ x1 ∧ ((B s).drop x1.toNat).head? = some 91
  · obtain ⟨a, rfl⟩ : ∃ m : Nat, x1 = m := ⟨x1.toNat, by omega⟩
    rw [Int.toNat_natCast] at h
    rw [class_eq (by omega) (by omega) h.2, Option.bind_some, rclass_eq (by omega) (by omega) h.2, Option.bind_some]
    cases cls ((B s).drop a) with
    | none => exact fin _ _ _ _ _ _ rfl rfl rfl
    | some x => exact fin _ _ _ _ _ _ rfl rfl rfl
  · rw [class_no (by omega) h, Option.bind_some, rclass_no (by omega) h, Option.bind_some]
    exact fin _ _ _ _ _ _ rfl rfl rfl
end Go.Proofs.YtcjnmmeibppblaaDoor.lexClass
