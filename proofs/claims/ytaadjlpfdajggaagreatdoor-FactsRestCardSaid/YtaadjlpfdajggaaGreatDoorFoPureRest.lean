/-
  THE PLAIN LAW, chapter 9: without Fast, whether a match is ruled out hangs on the rest of the text alone.
-/
import Derived.Test.YtaadjlpfdajggaaGreatDoorFoPureSet
set_option maxRecDepth 100000
set_option linter.unusedVariables false
set_option linter.unusedSimpArgs false
namespace Go.Proofs.YtaadjlpfdajggaaGreatDoor
open Go Go.AM

theorem prefix_ok {n : Nat} {s p : ByteArray} (h : 2 ≤ n) : m_strings_HasPrefix n s p = some (decide (p.size ≤ s.size) && decide ((B s).take p.size = B p)) := by
  obtain ⟨n, rfl⟩ : ∃ m, n = m + 2 := ⟨n - 2, by omega⟩
  show b_strings_HasPrefix (m_stringslite_HasPrefix (n + 1)) (n + 1) s p = _
  unfold b_strings_HasPrefix
  show (b_stringslite_HasPrefix n s p).bind _ = _
  unfold b_stringslite_HasPrefix
  by_cases hl : p.size ≤ s.size
  · obtain ⟨u, h1, h2⟩ := sub_eq (s := s) (Nat.zero_le p.size) hl
    have h1' : sub s 0 (p.size : Int) = some u := h1
    have hd : decide ((p.size : Int) ≤ (s.size : Int)) = true := by simp; omega
    rw [hd, cond_true, h1']
    simp only [Option.bind_some, B_iff, h2, List.drop_zero, Nat.sub_zero, hl, decide_true, Bool.true_and]
  · have hd : decide ((p.size : Int) ≤ (s.size : Int)) = false := by simp; omega
    rw [hd, cond_false]
    simp [hl]

/-- No byte ahead that a match may begin with. -/
def noHead (P : Nat → Bool) : List Int → Bool
  | [] => true
  | c :: _ => !P c.toNat

theorem out_spec {n : Nat} (P : Nat → Bool) (o f : Bool) (p s : ByteArray) (a : Nat) (hn : 10 ≤ n) (hp : p.size ≤ 200) (hs : s.size ≤ 200) (ha : a ≤ s.size) :
    m_facts_Out n ⟨W P, o, f, p⟩ s (a : Int) = some ((!o && noHead P ((B s).drop a)) || ((f && decide (0 < a)) || !(decide (p.size ≤ ((B s).drop a).length) && decide (((B s).drop a).take p.size = B p)))) := by
  obtain ⟨n, rfl⟩ : ∃ m, n = m + 1 := ⟨n - 1, by omega⟩
  show b_facts_Out (m_class_Set_Has n) (m_strings_HasPrefix n) n _ _ _ = _
  unfold b_facts_Out
  have c1 : decide ((a : Int) < 0) = false := by simp
  have c2 : decide ((s.size : Int) < (a : Int)) = false := by simp; omega
  obtain ⟨u, g1, g2⟩ := sub_tail (s := s) ha
  have hu : u.size = ((B s).drop a).length := by rw [← g2, B_len]
  have hpre := prefix_ok (n := n) (s := u) (p := p) (by omega)
  rw [hu, g2] at hpre
  have c3 : decide (0 < (a : Int)) = decide (0 < a) := by simp
  simp only [c1, c2, Bool.or_false, Bool.false_or, cond_false, g1, Option.bind_some, hpre, c3]
  by_cases hE : (⟨W P, o, f, p⟩ : facts_Facts) = ({ facts_Facts.zero with f_Open := true } : facts_Facts)
  · have hE' := hE
    simp only [facts_Facts.zero, facts_Facts.mk.injEq] at hE'
    obtain ⟨_, rfl, rfl, rfl⟩ := hE'
    simp only [hE, decide_true, cond_true]
    have e0 : (⟨#[]⟩ : ByteArray).size = 0 := rfl
    have e1 : B (⟨#[]⟩ : ByteArray) = [] := rfl
    rw [e0, e1]
    simp
  · simp only [hE, decide_false, cond_false]
    have last : ∀ g r : Bool, ((bif g then some true else some (!r)).bind fun y81 => some y81) = some (g || !r) := fun g r => by cases g <;> rfl
    cases o with
    | true => simp only [Bool.not_true, Bool.false_and, cond_false, Bool.false_or]; exact last _ _
    | false =>
      by_cases hq : (a : Int) = (s.size : Int)
      · have hd : decide ((a : Int) = (s.size : Int)) = true := by simp [hq]
        have hnil : (B s).drop a = [] := List.drop_eq_nil_of_le (by rw [B_len]; omega)
        simp only [hd, hnil]
        rfl
      · have hd : decide ((a : Int) = (s.size : Int)) = false := by simp; omega
        have hlt : a < (B s).length := by rw [B_len]; omega
        obtain ⟨c, hc⟩ : ∃ c, (B s)[a]? = some c := ⟨_, List.getElem?_eq_getElem hlt⟩
        obtain ⟨k0, k1⟩ := B_rng (List.mem_of_getElem? hc)
        have hb : bt s (a : Int) = some c := by rw [bt_nat, hc]
        have hdrop : (B s).drop a = c :: (B s).drop (a + 1) := by
          rw [List.drop_eq_getElem_cons hlt]
          congr 1
          rw [List.getElem?_eq_getElem hlt] at hc
          exact Option.some.inj hc
        simp only [hd, cond_false, hb, Option.bind_some, has_W P (by omega : 1 ≤ n) k0 k1]
        generalize hR : (decide (p.size ≤ (List.drop a (B s)).length) && decide ((List.drop a (B s)).take p.size = B p)) = R
        rw [hdrop, show noHead P (c :: (B s).drop (a + 1)) = !P c.toNat from rfl]
        cases P c.toNat with
        | false => rfl
        | true => exact last _ _

theorem pure (x0 : facts_Facts) (x1 : ByteArray) (x2 : Int) (w0 : ((∀ x ∈ x0.f_First.f_W.l, InK .u64 x) ∧ True) ∧ True ∧ True ∧ x0.f_Prefix.size ≤ maxLen ∧ True) (w1 : x1.size ≤ maxLen) (w2 : InK .u8 x2) : ∃ n, m_law09_FactsRest n x0 x1 x2 = some true := by
  obtain ⟨c, o, f, p⟩ := x0
  obtain ⟨P, rfl⟩ := W_of c w0.1.1
  refine ⟨2001, ?_⟩
  show b_law09_FactsRest (m_law09_fixed 2000) (m_facts_Out 2000) 2000 _ _ _ = _
  unfold b_law09_FactsRest
  obtain ⟨u, h1, h2⟩ := sub_eq (s := x1) (Nat.zero_le (min x1.size 200)) (Nat.min_le_left _ _)
  obtain ⟨v, g1, g2⟩ := sub_eq (s := p) (Nat.zero_le (min p.size 200)) (Nat.min_le_left _ _)
  have h1' : sub x1 0 (min (x1.size : Int) 200) = some u := by rw [← h1]; congr 1; omega
  have g1' : sub p 0 (min (p.size : Int) 200) = some v := by rw [← g1]; congr 1; omega
  have hu : u.size ≤ 200 := by rw [← B_len, h2, List.length_take]; omega
  have hv : v.size ≤ 200 := by rw [← B_len, g2, List.length_take]; omega
  have b0 : 0 ≤ x2 := w2.1
  have b1 : x2 ≤ 255 := w2.2
  obtain ⟨k, hk⟩ : ∃ k : Nat, x2 = k := ⟨x2.toNat, by omega⟩
  subst hk
  have hw : IntKind.i64.wrap (((u.size : Int)) + 1) = ((u.size + 1 : Nat) : Int) := by rw [w64 (by omega) (by omega)]; omega
  have hr : remO (IntKind.i64.wrap (k : Int)) ((u.size + 1 : Nat) : Int) = some ((k % (u.size + 1) : Nat) : Int) := by
    rw [w64 (by omega) (by omega)]
    simp only [remO, show ¬ (((u.size + 1 : Nat) : Int) = 0) by omega, if_false]
    rw [Int.tmod_eq_emod_of_nonneg (by omega)]
    simp
  have ha : k % (u.size + 1) ≤ u.size := by have := Nat.mod_lt k (show 0 < u.size + 1 by omega); omega
  obtain ⟨t, t1, t2⟩ := sub_tail (s := u) ha
  have ht : t.size ≤ 200 := by rw [← B_len, t2, List.length_drop, B_len]; omega
  have e1 := out_spec (n := 2000) P o false v u (k % (u.size + 1)) (by omega) hv hu ha
  have e2 := out_spec (n := 2000) P o true v u (k % (u.size + 1)) (by omega) hv hu ha
  have e3 := out_spec (n := 2000) P o false v t 0 (by omega) hv ht (Nat.zero_le _)
  have e4 : m_facts_Out 2000 ⟨W P, o, false, v⟩ u ((u.size + 1 : Nat) : Int) = some false := by
    show b_facts_Out (m_class_Set_Has 1999) (m_strings_HasPrefix 1999) 1999 _ _ _ = _
    unfold b_facts_Out
    have c2 : decide ((u.size : Int) < ((u.size + 1 : Nat) : Int)) = true := by simp; omega
    rw [c2]
    simp only [Bool.or_true, Bool.true_or, cond_true]
  have e5 : m_facts_Out 2000 ⟨W P, o, false, v⟩ u (-1) = some false := by
    show b_facts_Out (m_class_Set_Has 1999) (m_strings_HasPrefix 1999) 1999 _ _ _ = _
    unfold b_facts_Out
    simp
  have hf : m_law09_fixed 2000 = some true := rfl
  have e3' : m_facts_Out 2000 ⟨W P, o, false, v⟩ t 0 = _ := e3
  rw [List.drop_zero, t2] at e3'
  have c3 : decide (0 < ((k % (u.size + 1) : Nat) : Int)) = decide (0 < k % (u.size + 1)) := by
    simp only [decide_eq_decide]
    omega
  simp only [h1', g1', Option.bind_some, hw, hr, facts_Facts.w2, facts_Facts.w3, e1, e2, e3', t1, e4, e5, hf, c3, Bool.false_and, Bool.true_and, Bool.false_or, decide_true, cond_true, Bool.not_false]
  generalize (!o && noHead P (List.drop (k % (u.size + 1)) (B u))) = X
  generalize (decide (v.size ≤ (List.drop (k % (u.size + 1)) (B u)).length) && decide (List.take v.size (List.drop (k % (u.size + 1)) (B u)) = B v)) = Y
  generalize decide (0 < k % (u.size + 1)) = Z
  cases X <;> cases Y <;> cases Z <;> rfl
end Go.Proofs.YtaadjlpfdajggaaGreatDoor
