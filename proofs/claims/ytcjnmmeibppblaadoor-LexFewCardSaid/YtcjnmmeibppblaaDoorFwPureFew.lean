/-
  THE PLAIN LAW OF LexFew: what a token may be; how many there are.
-/
import Derived.Test.YtcjnmmeibppblaaDoorFwPure6
import Derived.Test.YtcjnmmeibppblaaDoorLaw2
set_option maxRecDepth 100000
set_option linter.unusedVariables false
set_option linter.unusedSimpArgs false
namespace Go.Proofs.YtcjnmmeibppblaaDoor.lexFew
open Go Go.AM

/-- What is asked of a token. -/
def Good (t : STok) : Prop := 0 ≤ t.kind ∧ t.kind < 18 ∧ (t.kind = 16 → ¬ (0 ≤ t.max ∧ t.max < t.min) ∧ 0 ≤ t.min ∧ t.min ≤ 100 ∧ t.max ≤ 100 ∧ 0 ≤ t.mode ∧ t.mode ≤ 2) ∧ (t.kind = 17 → 1 ≤ t.n ∧ t.n ≤ 9)
def GoodR (x : Except Int (STok × Nat)) : Prop := ∀ t k, x = .ok (t, k) → Good t
theorem good_kind {k : Int} {j : Nat} {f : List Int} {P : Nat → Bool} (h0 : 0 ≤ k) (h1 : k < 16) : GoodR (.ok ({ kind := k, flags := f, set := P }, j)) := fun t j e => by
  injection e with e; injection e with e1 e2
  subst e1
  refine ⟨h0, ?_, fun h => ?_, fun h => ?_⟩ <;> simp only [] at * <;> omega
theorem good_err {e : Int} : GoodR (.error e) := fun t k e => nomatch e
theorem good_rep {a b : Int} {l : List Int} {k : Nat} (h0 : 0 ≤ a) (h1 : a ≤ 100) (h2 : b ≤ 100) (h3 : ¬ (0 ≤ b ∧ b < a)) : GoodR (rep a b l k) := fun t j e => by
  have hm := md_rng (l.drop k)
  injection e with e; injection e with e1 e2
  subst e1
  refine ⟨by simp, by simp, fun _ => ⟨h3, h0, h1, h2, hm.2.2.1, hm.2.2.2⟩, fun h => ?_⟩
  simp at h
theorem tok_good (l : List Int) : GoodR (tok l) := by
  cases l with
  | nil => exact good_err
  | cons c r =>
    rw [tok]
    iterate 5
      split
      · exact good_kind (by omega) (by omega)
    split
    · rw [opn]
      iterate 7
        split
        · exact good_kind (by omega) (by omega)
      split
      · exact good_err
      · exact good_kind (by omega) (by omega)
    split
    · rw [qnt]
      split
      · exact good_rep (by omega) (by omega) (by omega) (by omega)
      split
      · exact good_rep (by omega) (by omega) (by omega) (by omega)
      split
      · split
        · exact good_err
        · rename_i hb
          have hr := brc_rng hb
          split
          · exact good_err
          split
          · exact good_err
          · exact good_rep (by omega) (by omega) (by omega) (by omega)
      · exact good_rep (by omega) (by omega) (by omega) (by omega)
    split
    · split
      · exact good_err
      · exact good_kind (k := 0) (f := []) (by omega) (by omega)
    split
    · rw [escd.eq_def]
      split
      · exact good_kind (by omega) (by omega)
      split
      · exact good_kind (by omega) (by omega)
      split
      · exact good_err
      · split
        · rename_i hd
          intro t k e
          injection e with e; injection e with e1 e2
          subst e1
          refine ⟨by simp, by simp, fun h => ?_, fun _ => ?_⟩
          · simp at h
          · simp only []; omega
        split
        · exact good_err
        · exact good_kind (k := 0) (f := []) (by omega) (by omega)
    split
    · exact good_err
    · exact good_kind (k := 0) (f := []) (by omega) (by omega)
theorem toks_good : ∀ (k : Nat) (l : List Int) (ts : List STok), Byt l → toks k l = .ok ts → (∀ t ∈ ts, Good t) ∧ ts.length ≤ l.length ∧ (l ≠ [] → ts ≠ []) := by
  intro k
  induction k with
  | zero => intro l ts _ h; cases h
  | succ k ih =>
    intro l ts hl h
    rw [toks] at h
    by_cases hn : l = []
    · rw [if_pos hn] at h
      injection h with h
      subst h
      exact ⟨fun t ht => (nomatch ht), by simp, fun h => absurd hn h⟩
    · rw [if_neg hn] at h
      have hg := tok_good l
      have hr := tok_rng hl
      cases ht : tok l with
      | error e => rw [ht] at h; cases h
      | ok x =>
        obtain ⟨t, m⟩ := x
        rw [ht] at h hg hr
        simp only [] at h
        cases hk : toks k (l.drop m) with
        | error e => rw [hk] at h; cases h
        | ok us =>
          rw [hk] at h
          injection h with h
          subst h
          have h1 := ih _ _ (hl.drop m) hk
          have h2 := hr t m rfl
          rw [List.length_drop] at h1
          refine ⟨fun u hu => ?_, ?_, fun _ => by simp⟩
          · rcases List.mem_cons.1 hu with rfl | hu
            · exact hg _ _ rfl
            · exact h1.1 u hu
          · simp only [List.length_cons]; omega
theorem toks_err : ∀ (k : Nat) (l : List Int) (e : Int), Byt l → l.length < k → toks k l = .error e → e = 3 ∨ e = 4 := by
  intro k
  induction k with
  | zero => intro l e _ h; omega
  | succ k ih =>
    intro l e hl hk h
    rw [toks] at h
    by_cases hn : l = []
    · rw [if_pos hn] at h; cases h
    · rw [if_neg hn] at h
      have hr := tok_rng hl
      cases ht : tok l with
      | error e' =>
        rw [ht] at h
        injection h with h
        exact h ▸ tok_err l ht
      | ok x =>
        obtain ⟨t, m⟩ := x
        rw [ht] at h hr
        simp only [] at h
        have h2 := hr t m rfl
        cases hk' : toks k (l.drop m) with
        | error e' =>
          rw [hk'] at h
          injection h with h
          exact h ▸ ih _ _ (hl.drop m) (by rw [List.length_drop]; omega) hk'
        | ok us => rw [hk'] at h; cases h

theorem fixed : m_law06_fixed 2000 = some true := by kernel_rfl

theorem few_loop {s : ByteArray} {ts : List STok} (hg : ∀ t ∈ ts, Good t) (hl : ts.length ≤ s.size) (hz : s.size ≤ 300) (hne : s.size ≠ 0 → ts ≠ []) (c : T_lex_Lex) (n : Nat) :
    ∀ (k i : Nat), i ≤ ts.length → ts.length - i < k → b_law06_LexFew_1 c (m_law06_fixed 2000) n k s (slOf (ts.map toLex)) (i : Int) = some true := by
  intro k
  have hlen : Sl.len (slOf (ts.map toLex)) = (ts.length : Int) := by rw [Sl.len, slOf_l, List.length_map]
  induction k with
  | zero => intro i _ h; omega
  | succ k ih =>
    intro i hi hk
    rw [b_law06_LexFew_1.eq_2, hlen]
    by_cases h : i < ts.length
    · have h1 : ((i : Int) < (ts.length : Int)) := by omega
      simp only [h1, decide_true, cond_true]
      rw [slOf_l, List.length_map, ck_ok h, Option.bind_some]
      have hnth : Sl.nth (slOf (ts.map toLex)) i = toLex ts[i] := by
        rw [Sl.nth, slOf_l]
        simp [List.getD_eq_getElem?_getD, h]
      rw [hnth]
      have hG := hg ts[i] (List.getElem_mem h)
      generalize ts[i] = t at hG
      obtain ⟨g1, g2, g3, g4⟩ := hG
      have e : ((((decide (((toLex t).f_Kind) < 0)) || (decide (18 ≤ ((toLex t).f_Kind)))) || ((decide (((toLex t).f_Kind) = 16)) && (((((((decide (0 ≤ ((toLex t).f_Max))) && (decide (((toLex t).f_Max) < ((toLex t).f_Min)))) || (decide (((toLex t).f_Min) < 0))) || (decide (100 < ((toLex t).f_Min)))) || (decide (100 < ((toLex t).f_Max)))) || (decide (((toLex t).f_Mode) < 0))) || (decide (2 < ((toLex t).f_Mode)))))) || ((decide (((toLex t).f_Kind) = 17)) && ((decide (((toLex t).f_N) < 1)) || (decide (9 < ((toLex t).f_N)))))) = false := by
        show ((((decide (t.kind < 0)) || (decide (18 ≤ t.kind))) || ((decide (t.kind = 16)) && (((((((decide (0 ≤ t.max)) && (decide (t.max < t.min))) || (decide (t.min < 0))) || (decide (100 < t.min))) || (decide (100 < t.max))) || (decide (t.mode < 0))) || (decide (2 < t.mode))))) || ((decide (t.kind = 17)) && ((decide (t.n < 1)) || (decide (9 < t.n))))) = false
        have a1 : ¬ t.kind < 0 := by omega
        have a2 : ¬ 18 ≤ t.kind := by omega
        by_cases h16 : t.kind = 16
        · have g := g3 h16
          have h17 : ¬ (t.kind = 17) := by omega
          have b1 : ¬ t.min < 0 := by omega
          have b2 : ¬ 100 < t.min := by omega
          have b3 : ¬ 100 < t.max := by omega
          have b4 : ¬ t.mode < 0 := by omega
          have b5 : ¬ 2 < t.mode := by omega
          by_cases b6 : 0 ≤ t.max
          · have b7 : ¬ t.max < t.min := by omega
            simp [a1, a2, h16, b1, b2, b3, b4, b5, b6, b7]
          · simp [a1, a2, h16, b1, b2, b3, b4, b5, b6]
        · by_cases h17 : t.kind = 17
          · have g := g4 h17
            have b1 : ¬ t.n < 1 := by omega
            have b2 : ¬ 9 < t.n := by omega
            simp [a1, a2, h17, b1, b2]
          · simp [a1, a2, h16, h17]
      rw [e, cond_false, wp1 (by omega)]
      exact ih (i + 1) (by omega) (by omega)
    · have h1 : ¬ ((i : Int) < (ts.length : Int)) := by omega
      simp only [h1, decide_false, cond_false]
      have h2 : ((ts.length : Int) ≤ (s.size : Int)) := by omega
      have h3 : (decide ((0 : Int) < (ts.length : Int))) = (decide ((0 : Int) < (s.size : Int))) := by
        by_cases h4 : s.size = 0
        · have : ts.length = 0 := by omega
          simp [h4, this]
        · have : ts.length ≠ 0 := fun h5 => hne h4 (List.eq_nil_of_length_eq_zero h5)
          have h5 : (0 : Int) < (ts.length : Int) := by omega
          have h6 : (0 : Int) < (s.size : Int) := by omega
          rw [decide_eq_true h5, decide_eq_true h6]
      simp only [h2, h3, decide_true, Bool.and_self, cond_true]
      rw [fixed]
      rfl
theorem pure (x0 : ByteArray) (_ : x0.size ≤ maxLen) : ∃ n, m_law06_LexFew n x0 = some true := by
  refine ⟨2001, ?_⟩
  show b_law06_LexFew (m_lex_Lex 2000) (m_law06_fixed 2000) 2000 x0 = _
  unfold b_law06_LexFew
  have hmin : min ((x0.size : Int)) 300 = ((min x0.size 300 : Nat) : Int) := by omega
  obtain ⟨s, hs, hb⟩ := sub_eq (s := x0) (a := 0) (b := min x0.size 300) (by omega) (by omega)
  have hz : s.size ≤ 300 := by
    have := congrArg List.length hb
    rw [B_len, List.length_take, List.length_drop, B_len] at this
    omega
  rw [hmin, show (0 : Int) = ((0 : Nat) : Int) from rfl, hs, Option.bind_some, lex_eq (by omega), Option.bind_some]
  rw [lexS, if_neg (by rw [B_len]; omega)]
  have he := fun e => toks_err ((B s).length + 1) (B s) e (B_byt s) (by omega)
  have hg := fun ts => toks_good ((B s).length + 1) (B s) ts (B_byt s)
  cases hx : toks ((B s).length + 1) (B s) with
  | error e =>
    have h1 := he e hx
    rw [fixed]
    rcases h1 with rfl | rfl <;> rfl
  | ok ts =>
    have h1 := hg ts hx
    rw [B_len] at h1
    simp only [lexR, List.nil_append]
    exact few_loop h1.1 h1.2.1 hz (fun h => h1.2.2 fun h0 => h (by rw [← B_len, h0]; rfl)) _ 2000 2000 0 (by omega) (by omega)
end Go.Proofs.YtcjnmmeibppblaaDoor.lexFew
