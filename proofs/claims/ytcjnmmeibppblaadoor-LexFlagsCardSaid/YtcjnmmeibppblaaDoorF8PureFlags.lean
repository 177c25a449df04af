/-
  THE PLAIN LAW OF LexFlags: flags count by their rest modulo 3 alone; each of the 81 cases is run by the kernel.
-/
import Derived.Test.YtcjnmmeibppblaaDoorF8Tab
import Derived.Test.YtcjnmmeibppblaaDoorLaw2
set_option maxRecDepth 1000000
namespace Go.Proofs.YtcjnmmeibppblaaDoor.lexFlags
open Go Go.AM

/-- The same flags, by their rests. -/
def rests (x : Arr Int 3) : Arr Int 3 := ⟨x.l.map fun a => a.tmod 3, by rw [List.length_map, x.h]⟩

theorem rem_rests (x : Arr Int 3) (j : Nat) : remO ((rests x).nth j) 3 = remO (x.nth j) 3 := by
  have h : (rests x).nth j = (x.nth j).tmod 3 := by
    simp only [rests, Arr.nth, List.getD_eq_getElem?_getD, List.getElem?_map]
    cases x.l[j]? <;> rfl
  rw [h]
  simp only [remO, show ¬ ((3 : Int) = 0) by decide, if_false]
  rw [Int.tmod_tmod]

theorem inner (c10 : T10) (c14 : T14) (n : Nat) (x : Arr Int 3) {q q' : Arr Int 3 → ByteArray → Bool → Int → Int → Option Bool} (hq : ∀ a b c d, q (rests x) a b c d = q' x a b c d) :
    ∀ k a b c d e, fn8_2 c10 c14 n q k (rests x) a b c d e = fn8_2 c10 c14 n q' k x a b c d e
  | 0, a, b, c, d, e => rfl
  | k + 1, a, b, c, d, e => by
    rw [fn8_2.eq_2, fn8_2.eq_2]
    simp only [rem_rests, hq, inner c10 c14 n x hq k]
theorem outer (c10 : T10) (c14 : T14) (n : Nat) (x : Arr Int 3) : ∀ k a b c d, fn8_1 c10 c14 n k (rests x) a b c d = fn8_1 c10 c14 n k x a b c d
  | 0, a, b, c, d => rfl
  | k + 1, a, b, c, d => by
    rw [fn8_1.eq_2, fn8_1.eq_2, inner c10 c14 n x (q' := fn8_1 c10 c14 n k) (fun a b c d => outer c10 c14 n x k a b c d)]

theorem fixed : m14 59 = some true := by kernel_rfl
theorem all81 : ((List.range 81).all fun i => fn8 (m10 59) (some true) 59 ⟨[((i % 3 : Nat) : Int), ((i / 3 % 3 : Nat) : Int), ((i / 9 % 3 : Nat) : Int)], rfl⟩ ((i / 27 : Nat) : Int) == some true) = true := by kernel_rfl

theorem pure (x0 : Arr Int 3) (x1 : Int) (w0 : ∀ x ∈ x0.l, InK .u8 x) (w1 : InK .u8 x1) : ∃ n, m8 n x0 x1 = some true := by
  refine ⟨60, ?_⟩
  show fn8 (m10 59) (m14 59) 59 x0 x1 = some true
  rw [fixed]
  obtain ⟨l, hl⟩ := x0
  obtain ⟨a, b, c, rfl⟩ : ∃ a b c, l = [a, b, c] := by
    match l, hl with
    | [a, b, c], _ => exact ⟨a, b, c, rfl⟩
  have ha := w0 a (by simp)
  have hb := w0 b (by simp)
  have hc := w0 c (by simp)
  simp only [InK, show IntKind.u8.min = 0 from rfl, show IntKind.u8.max = 255 from rfl] at ha hb hc w1
  have ta : a.tmod 3 = a % 3 := Int.tmod_eq_emod_of_nonneg ha.1
  have tb : b.tmod 3 = b % 3 := Int.tmod_eq_emod_of_nonneg hb.1
  have tc : c.tmod 3 = c % 3 := Int.tmod_eq_emod_of_nonneg hc.1
  have td : x1.tmod 3 = x1 % 3 := Int.tmod_eq_emod_of_nonneg w1.1
  -- the number of flags, by its rest
  have h1 : ∀ x : Arr Int 3, fn8 (m10 59) (some true) 59 x x1 = fn8 (m10 59) (some true) 59 x (x1.tmod 3) := fun x => by
    unfold fn8
    have e1 : IntKind.i64.wrap x1 = x1 := wrap_i64 (by omega) (by omega)
    have e2 : IntKind.i64.wrap (x1.tmod 3) = x1.tmod 3 := by rw [td]; exact wrap_i64 (by omega) (by omega)
    rw [e1, e2]
    congr 1
    simp only [remO, show ¬ ((3 : Int) = 0) by decide, if_false]
    rw [Int.tmod_tmod]
  have h2 : ∀ x : Arr Int 3, fn8 (m10 59) (some true) 59 (rests x) (x1.tmod 3) = fn8 (m10 59) (some true) 59 x (x1.tmod 3) := fun x => by
    unfold fn8
    simp only [outer]
  rw [h1, ← h2]
  have key := List.all_eq_true.1 all81 ((a.tmod 3).toNat + 3 * (b.tmod 3).toNat + 9 * (c.tmod 3).toNat + 27 * (x1.tmod 3).toNat) (by rw [ta, tb, tc, td]; simp; omega)
  rw [beq_iff_eq] at key
  have ea : ((((a.tmod 3).toNat + 3 * (b.tmod 3).toNat + 9 * (c.tmod 3).toNat + 27 * (x1.tmod 3).toNat) % 3 : Nat) : Int) = a.tmod 3 := by rw [ta, tb, tc, td]; omega
  have eb : ((((a.tmod 3).toNat + 3 * (b.tmod 3).toNat + 9 * (c.tmod 3).toNat + 27 * (x1.tmod 3).toNat) / 3 % 3 : Nat) : Int) = b.tmod 3 := by rw [ta, tb, tc, td]; omega
  have ec : ((((a.tmod 3).toNat + 3 * (b.tmod 3).toNat + 9 * (c.tmod 3).toNat + 27 * (x1.tmod 3).toNat) / 9 % 3 : Nat) : Int) = c.tmod 3 := by rw [ta, tb, tc, td]; omega
  have ed : ((((a.tmod 3).toNat + 3 * (b.tmod 3).toNat + 9 * (c.tmod 3).toNat + 27 * (x1.tmod 3).toNat) / 27 : Nat) : Int) = x1.tmod 3 := by rw [ta, tb, tc, td]; omega
  rw [← key]
  congr 1
  · simp only [rests, List.map_cons, List.map_nil]
    congr 1
    rw [ea, eb, ec]
  · exact ed.symm
end Go.Proofs.YtcjnmmeibppblaaDoor.lexFlags
