/-
  LexBytes: each byte, one after the other: our machine runs the law.
-/
import Derived.Test.YtcjnmmeibppblaaDoorMach
set_option maxRecDepth 1000000
namespace Go.Proofs.YtcjnmmeibppblaaDoor
open Go Go.AM

/-- Answers of flat calls, told one by one; each is shown by running the body. -/
def F14 : List Value → Option Value
  | [] => some (.bool true)
  | _ => none
def F18 : List Value → Option Value
  | [.string s] => if s.data.toList = [46, 94, 36, 124, 40, 41, 91, 93, 123, 125, 42, 43, 63, 92] then some (.agg #[.int .u64 9223458966992846848, .int .u64 4035225268137230336, .int .u64 0, .int .u64 0]) else none
  | _ => none
def F20 : List Value → Option Value
  | [.int .u8 a, .int .u8 b] => if a = 97 && b = 122 then some (.agg #[.int .u64 0, .int .u64 576460743713488896, .int .u64 0, .int .u64 0]) else if a = 65 && b = 90 then some (.agg #[.int .u64 0, .int .u64 134217726, .int .u64 0, .int .u64 0]) else if a = 48 && b = 57 then some (.agg #[.int .u64 287948901175001088, .int .u64 0, .int .u64 0, .int .u64 0]) else none
  | _ => none
def F63 : List Value → Option Value
  | [] => some (.agg #[.int .u64 287948901175001088, .int .u64 576460745995190270, .int .u64 0, .int .u64 0])
  | _ => none

def CB : CallF := orC (flatC chk 14 F14) (orC (flatC chk 18 F18) (orC (flatC chk 20 F20) (flatC chk 63 F63)))

noncomputable def run0 (f : FuncId) (args : List Value) : Option Value := (callW Mt noC 400 2 f args G).map (·.1)

theorem r14 : run0 14 [] = some (.bool true) := by kernel_rfl
theorem r18 : run0 18 [.string ⟨#[46, 94, 36, 124, 40, 41, 91, 93, 123, 125, 42, 43, 63, 92]⟩] = some (.agg #[.int .u64 9223458966992846848, .int .u64 4035225268137230336, .int .u64 0, .int .u64 0]) := by kernel_rfl
theorem r20a : run0 20 [.int .u8 97, .int .u8 122] = some (.agg #[.int .u64 0, .int .u64 576460743713488896, .int .u64 0, .int .u64 0]) := by kernel_rfl
theorem r20b : run0 20 [.int .u8 65, .int .u8 90] = some (.agg #[.int .u64 0, .int .u64 134217726, .int .u64 0, .int .u64 0]) := by kernel_rfl
theorem r20c : run0 20 [.int .u8 48, .int .u8 57] = some (.agg #[.int .u64 287948901175001088, .int .u64 0, .int .u64 0, .int .u64 0]) := by kernel_rfl
theorem r63 : run0 63 [] = some (.agg #[.int .u64 287948901175001088, .int .u64 576460745995190270, .int .u64 0, .int .u64 0]) := by kernel_rfl

theorem of_run0 {f : FuncId} {args : List Value} {v : Value} (h : run0 f args = some v) : ∃ H' d, callW Mt noC 400 G.length f args G = some (v, H', d) := by
  unfold run0 at h
  simp only [Option.map_eq_some_iff, Prod.exists] at h
  obtain ⟨v', H', d, h1, h2⟩ := h
  subst h2
  exact ⟨H', d, h1⟩

theorem okCB : CallOk Mt CB := by
  have ok0 : CallOk Mt (callW Mt noC 400) := callW_ok okM noC_ok 400
  refine orC_ok (flatC_ok ok0 base fun args v h => ?_) (orC_ok (flatC_ok ok0 base fun args v h => ?_) (orC_ok (flatC_ok ok0 base fun args v h => ?_) (flatC_ok ok0 base fun args v h => ?_)))
  · unfold F14 at h
    split at h
    · injection h with h; subst h
      exact ⟨by simp, rfl, of_run0 r14⟩
    · cases h
  · unfold F18 at h
    split at h
    · rename_i s
      split at h
      · rename_i hs
        injection h with h; subst h
        obtain rfl : s = ⟨#[46, 94, 36, 124, 40, 41, 91, 93, 123, 125, 42, 43, 63, 92]⟩ := by
          obtain ⟨⟨l⟩⟩ := s
          simp only at hs; subst hs; rfl
        exact ⟨by simp [flat_eq], by kernel_rfl, of_run0 r18⟩
      · cases h
    · cases h
  · unfold F20 at h
    split at h
    · rename_i a b
      have fl : ∀ x ∈ [Value.int .u8 a, .int .u8 b], flat x = true := by simp [flat_eq]
      split at h
      · rename_i hs
        simp only [Bool.and_eq_true, decide_eq_true_eq] at hs
        obtain ⟨rfl, rfl⟩ := hs
        injection h with h; subst h
        exact ⟨fl, by kernel_rfl, of_run0 r20a⟩
      · split at h
        · rename_i hs
          simp only [Bool.and_eq_true, decide_eq_true_eq] at hs
          obtain ⟨rfl, rfl⟩ := hs
          injection h with h; subst h
          exact ⟨fl, by kernel_rfl, of_run0 r20b⟩
        · split at h
          · rename_i hs
            simp only [Bool.and_eq_true, decide_eq_true_eq] at hs
            obtain ⟨rfl, rfl⟩ := hs
            injection h with h; subst h
            exact ⟨fl, by kernel_rfl, of_run0 r20c⟩
          · cases h
    · cases h
  · unfold F63 at h
    split at h
    · injection h with h; subst h
      exact ⟨by simp, by kernel_rfl, of_run0 r63⟩
    · cases h

noncomputable def byteTrue (n : Nat) : Bool := match callW Mt CB 60 2 6 [.int .u8 n] G with | some (.bool true, _, _) => true | _ => false
end Go.Proofs.YtcjnmmeibppblaaDoor
