/-
  THE PLAIN LAW OF LexCounts: what stands in braces, of two numbers below 256.
-/
import Derived.Test.YtcjnmmeibppblaaDoorCnPure6
import Derived.Test.YtcjnmmeibppblaaDoorLaw2
set_option maxRecDepth 100000
set_option linter.unusedVariables false
set_option linter.unusedSimpArgs false
namespace Go.Proofs.YtcjnmmeibppblaaDoor.lexCounts
open Go Go.AM

/-- A number's digits. -/
def ds (x : Int) : List Int := if x < 10 then [48 + x] else if x < 100 then [48 + x / 10, 48 + x % 10] else [48 + x / 100, 48 + x / 10 % 10, 48 + x % 10]
theorem ds_len (x : Int) : 1 ≤ (ds x).length ∧ (ds x).length ≤ 3 := by
  unfold ds
  split
  · simp
  · split <;> simp
theorem digits_eq {n : Nat} {x : Int} (h : 9 ≤ n) (h0 : 0 ≤ x) (h1 : x < 256) : ∃ u, m_law06_digits n x = some u ∧ B u = ds x := by
  obtain ⟨n, rfl⟩ : ∃ m, n = m + 9 := ⟨n - 9, by omega⟩
  have e : ((List.range 256).all fun c => (m_law06_digits (n + 9) (c : Int)).map B == some (ds (c : Int))) = true := by kernel_rfl
  have := beq_iff_eq.1 (all256 (f := fun c => (m_law06_digits (n + 9) c).map B == some (ds c)) e h0 h1)
  cases hm : m_law06_digits (n + 9) x with
  | none => rw [hm] at this; cases this
  | some u => rw [hm] at this; injection this with this; exact ⟨u, rfl, this⟩
theorem cnt_ds {x c : Int} {r : List Int} (h0 : 0 ≤ x) (h1 : x < 256) (hc : ¬ (48 ≤ c ∧ c ≤ 57)) : cnt (ds x ++ c :: r) = (x, (ds x).length) := by
  unfold ds cnt
  by_cases a : x < 10
  · rw [if_pos a]
    have h1 : 48 ≤ 48 + x ∧ 48 + x ≤ 57 := by omega
    simp only [List.cons_append, List.nil_append, cntk, if_pos h1, if_neg hc]
    refine Prod.ext ?_ rfl
    simp only []; omega
  rw [if_neg a]
  by_cases b : x < 100
  · rw [if_pos b]
    have h1 : 48 ≤ 48 + x / 10 ∧ 48 + x / 10 ≤ 57 := by omega
    have h2 : 48 ≤ 48 + x % 10 ∧ 48 + x % 10 ≤ 57 := by omega
    simp only [List.cons_append, List.nil_append, cntk, if_pos h1, if_pos h2, if_neg hc]
    refine Prod.ext ?_ rfl
    simp only []; omega
  · rw [if_neg b]
    have h1 : 48 ≤ 48 + x / 100 ∧ 48 + x / 100 ≤ 57 := by omega
    have h2 : 48 ≤ 48 + x / 10 % 10 ∧ 48 + x / 10 % 10 ≤ 57 := by omega
    have h3 : 48 ≤ 48 + x % 10 ∧ 48 + x % 10 ≤ 57 := by omega
    simp only [List.cons_append, List.nil_append, cntk, if_pos h1, if_pos h2, if_pos h3]
    refine Prod.ext ?_ rfl
    simp only []; omega
/-- What stands behind. -/
def sf (m : Int) : List Int := if m = 0 then [] else if m = 1 then [63] else [43]
theorem md_sf {m : Int} (h0 : 0 ≤ m) (h1 : m < 3) : md (sf m) = (m, (sf m).length) := by
  have : m = 0 ∨ m = 1 ∨ m = 2 := by omega
  rcases this with rfl | rfl | rfl <;> rfl
theorem brc_ds {a b : Int} {r : List Int} (a0 : 0 ≤ a) (a1 : a < 256) (b0 : 0 ≤ b) (b1 : b < 256) :
    brc (ds a ++ 44 :: (ds b ++ 125 :: r)) = some (a, b, 1 + (ds a).length + 1 + (ds b).length + 1) := by
  have la := ds_len a
  have lb := ds_len b
  have c1 := cnt_ds (c := 44) (r := ds b ++ 125 :: r) a0 a1 (by omega)
  have c2 := cnt_ds (c := 125) (r := r) b0 b1 (by omega)
  have d1 : (ds a ++ 44 :: (ds b ++ 125 :: r)).drop (ds a).length = 44 :: (ds b ++ 125 :: r) := by simp
  have d2 : (ds a ++ 44 :: (ds b ++ 125 :: r)).drop ((ds a).length + 1) = ds b ++ 125 :: r := by rw [← List.drop_drop, d1]; rfl
  have d3 : (ds b ++ 125 :: r).drop (ds b).length = 125 :: r := by simp
  rw [brc, c1]
  simp only []
  rw [d1, d2, c2]
  simp only []
  rw [d3, if_neg (by omega), if_pos (show (44 :: (ds b ++ 125 :: r)).head? = some 44 from rfl), if_pos (show (125 :: r).head? = some 125 from rfl), if_neg (by omega)]
/-- What is read, of all. -/
theorem lex_ds {a b m : Int} (a0 : 0 ≤ a) (a1 : a < 256) (b0 : 0 ≤ b) (b1 : b < 256) (m0 : 0 ≤ m) (m1 : m < 3) :
    lexS (120 :: 123 :: (ds a ++ 44 :: (ds b ++ 125 :: sf m))) =
      if 100 < a ∨ 100 < b then .error 4 else if b < a then .error 3 else .ok [{ set := one 120 }, { kind := 16, min := a, max := b, mode := m }] := by
  have la := ds_len a
  have lb := ds_len b
  have ls : (sf m).length ≤ 1 := by unfold sf; split <;> (try split) <;> simp
  have hl : (120 :: 123 :: (ds a ++ 44 :: (ds b ++ 125 :: sf m)) : List Int).length = 5 + (ds a).length + (ds b).length + (sf m).length - 1 := by simp; omega
  have t1 : tok (120 :: 123 :: (ds a ++ 44 :: (ds b ++ 125 :: sf m))) = .ok ({ set := one 120 }, 1) := by
    rw [tok]
    simp
  have t2 : tok (123 :: (ds a ++ 44 :: (ds b ++ 125 :: sf m))) = if 100 < a ∨ 100 < b then .error 4 else if b < a then .error 3 else .ok ({ kind := 16, min := a, max := b, mode := m }, 1 + (ds a).length + 1 + (ds b).length + 1 + (sf m).length) := by
    rw [tok]
    rw [if_neg (by decide), if_neg (by decide), if_neg (by decide), if_neg (by decide), if_neg (by decide), if_neg (by decide), if_pos (by decide), qnt]
    rw [if_neg (by decide), if_neg (by decide), if_pos rfl, brc_ds a0 a1 b0 b1]
    simp only []
    by_cases h1 : 100 < a ∨ 100 < b
    · rw [if_pos h1, if_pos (by omega)]
    rw [if_neg h1, if_neg (by omega)]
    by_cases h2 : b < a
    · rw [if_pos h2, if_pos ⟨by omega, h2⟩]
    rw [if_neg h2, if_neg (by omega), rep]
    have dd : (123 :: (ds a ++ 44 :: (ds b ++ 125 :: sf m)) : List Int).drop (1 + (ds a).length + 1 + (ds b).length + 1) = sf m := by
      rw [show 1 + (ds a).length + 1 + (ds b).length + 1 = (((ds a).length + 1) + ((ds b).length + 1)) + 1 by omega, List.drop_succ_cons, ← List.drop_drop]
      have d2 : (ds a ++ 44 :: (ds b ++ 125 :: sf m)).drop ((ds a).length + 1) = ds b ++ 125 :: sf m := by
        rw [← List.drop_drop, show (ds a ++ 44 :: (ds b ++ 125 :: sf m)).drop (ds a).length = 44 :: (ds b ++ 125 :: sf m) by simp]; rfl
      rw [d2, ← List.drop_drop, show (ds b ++ 125 :: sf m).drop (ds b).length = 125 :: sf m by simp]
      rfl
    rw [dd, md_sf m0 m1]
  rw [lexS, if_neg (by omega)]
  obtain ⟨k, hk⟩ : ∃ k, (120 :: 123 :: (ds a ++ 44 :: (ds b ++ 125 :: sf m)) : List Int).length = k + 2 := ⟨(ds a ++ 44 :: (ds b ++ 125 :: sf m)).length, by simp⟩
  rw [hk, toks, if_neg (by simp), t1]
  simp only [List.drop_succ_cons, List.drop_zero]
  rw [toks, if_neg (by simp), t2]
  by_cases h1 : 100 < a ∨ 100 < b
  · simp only [if_pos h1]
  simp only [if_neg h1]
  by_cases h2 : b < a
  · simp only [if_pos h2]
  simp only [if_neg h2]
  have dd : (123 :: (ds a ++ 44 :: (ds b ++ 125 :: sf m)) : List Int).drop (1 + (ds a).length + 1 + (ds b).length + 1 + (sf m).length) = [] := by
    refine List.drop_eq_nil_of_le ?_
    simp
    omega
  rw [dd, toks, if_pos rfl]

theorem fixed : m_law06_fixed 2000 = some true := by kernel_rfl
theorem sadd_B {s u : ByteArray} (h : s.size + u.size < 100000) : ∃ v, sadd s u = some v ∧ B v = B s ++ B u := ⟨_, sadd_eq (by omega), B_append _ _⟩
theorem pure (x0 x1 x2 : Int) (w0 : InK .u8 x0) (w1 : InK .u8 x1) (w2 : InK .u8 x2) : ∃ n, m_law06_LexCounts n x0 x1 x2 = some true := by
  refine ⟨2001, ?_⟩
  show b_law06_LexCounts (m_lex_Lex 2000) (m_law06_fixed 2000) (m_law06_digits 2000) 2000 x0 x1 x2 = _
  simp only [InK, show IntKind.u8.min = 0 from rfl, show IntKind.u8.max = 255 from rfl] at w0 w1 w2
  unfold b_law06_LexCounts
  rw [w64 (n := x0) (by omega) (by omega), w64 (n := x1) (by omega) (by omega), w64 (n := x2) (by omega) (by omega)]
  obtain ⟨da, e1, b1⟩ := digits_eq (n := 2000) (x := x0) (by omega) (by omega) (by omega)
  obtain ⟨db, e2, b2⟩ := digits_eq (n := 2000) (x := x1) (by omega) (by omega) (by omega)
  have la := ds_len x0
  have lb := ds_len x1
  have sa : da.size ≤ 3 := by rw [← B_len, b1]; exact la.2
  have sb : db.size ≤ 3 := by rw [← B_len, b2]; exact lb.2
  obtain ⟨v3, e3, b3⟩ := sadd_B (s := ⟨#[120, 123]⟩) (u := da) (by show 2 + da.size < 100000; omega)
  have s3 : v3.size = 2 + da.size := by rw [← B_len, b3, List.length_append, B_len, B_len]; rfl
  obtain ⟨v4, e4, b4⟩ := sadd_B (s := v3) (u := ⟨#[44]⟩) (by show v3.size + 1 < 100000; omega)
  have s4 : v4.size = v3.size + 1 := by rw [← B_len, b4, List.length_append, B_len, B_len]; rfl
  obtain ⟨v7, e7, b7⟩ := sadd_B (s := v4) (u := db) (by omega)
  have s7 : v7.size = v4.size + db.size := by rw [← B_len, b7, List.length_append, B_len, B_len]
  obtain ⟨v8, e8, b8⟩ := sadd_B (s := v7) (u := ⟨#[125]⟩) (by show v7.size + 1 < 100000; omega)
  have s8 : v8.size = v7.size + 1 := by rw [← B_len, b8, List.length_append, B_len, B_len]; rfl
  have er : remO x2 3 = some (x2 % 3) := by
    simp only [remO, show ¬ ((3 : Int) = 0) by decide, if_false]
    rw [Int.tmod_eq_emod_of_nonneg (by omega)]
  rw [e1, Option.bind_some, e3, Option.bind_some, e4, Option.bind_some, e2, Option.bind_some, e7, Option.bind_some, e8, Option.bind_some, er, Option.bind_some]
  obtain ⟨m, hm, m0, m3⟩ : ∃ m, x2 % 3 = m ∧ 0 ≤ m ∧ m < 3 := ⟨_, rfl, by omega, by omega⟩
  rw [hm, show (Sl.l (some ([(⟨#[]⟩ : ByteArray), (⟨#[63]⟩ : ByteArray), (⟨#[43]⟩ : ByteArray)] : List ByteArray))).length = 3 from rfl, ck_int m0 m3, Option.bind_some]
  obtain ⟨u, hu, bu⟩ : ∃ u, Sl.nth (some ([(⟨#[]⟩ : ByteArray), (⟨#[63]⟩ : ByteArray), (⟨#[43]⟩ : ByteArray)] : List ByteArray)) m.toNat = u ∧ B u = sf m := by
    have : m = 0 ∨ m = 1 ∨ m = 2 := by omega
    rcases this with rfl | rfl | rfl <;> exact ⟨_, rfl, rfl⟩
  have su : u.size ≤ 1 := by rw [← B_len, bu]; unfold sf; split <;> (try split) <;> simp
  obtain ⟨v9, e9, b9⟩ := sadd_B (s := v8) (u := u) (by omega)
  have hB : B v9 = 120 :: 123 :: (ds x0 ++ 44 :: (ds x1 ++ 125 :: sf m)) := by
    rw [b9, b8, b7, b4, b3, b1, b2, bu, show B ⟨#[120, 123]⟩ = [120, 123] from rfl, show B ⟨#[44]⟩ = [44] from rfl, show B ⟨#[125]⟩ = [125] from rfl]
    simp
  rw [hu, e9, Option.bind_some, lex_eq (by omega), Option.bind_some, hB, lex_ds (by omega) (by omega) (by omega) (by omega) m0 m3]
  by_cases h1 : 100 < x0 ∨ 100 < x1
  · have h1' : (decide (100 < x0) || decide (100 < x1)) = true := by simpa using h1
    rw [if_pos h1, h1', cond_true, fixed]
    rfl
  · have h1' : (decide (100 < x0) || decide (100 < x1)) = false := by simpa using h1
    rw [if_neg h1, h1', cond_false]
    by_cases h2 : x1 < x0
    · simp only [if_pos h2, h2, decide_true, cond_true]
      rw [fixed]
      rfl
    · rw [if_neg h2]
      simp only [h2, decide_false, cond_false]
      have hn : Sl.nth (lexR [] (.ok [{ set := one 120 }, { kind := 16, min := x0, max := x1, mode := m }])).1 1 = ({ lex_Token.zero with f_Kind := 16, f_Min := x0, f_Max := x1, f_Mode := m } : lex_Token) := by
        show toLex { kind := 16, min := x0, max := x1, mode := m } = _
        rw [← lexMk]
        rfl
      rw [show (Sl.l (lexR [] (.ok [{ set := one 120 }, { kind := 16, min := x0, max := x1, mode := m }])).1).length = 2 from rfl, show ck 2 1 = some 1 from rfl, Option.bind_some, hn]
      rw [fixed, show decide ((lexR [] (.ok [{ set := one 120 }, { kind := 16, min := x0, max := x1, mode := m }])).2 = 0) = true from rfl, show decide (Sl.len (lexR [] (.ok [{ set := one 120 }, { kind := 16, min := x0, max := x1, mode := m }])).1 = 2) = true from rfl]
      simp
end Go.Proofs.YtcjnmmeibppblaaDoor.lexCounts
