/-
  THE PLAIN LAW, chapter 9: whether facts rule a match out at a place is as the reference says.
-/
import Derived.Test.YtaadjlpfdajggaaGreatDoorFoPureSet
set_option maxRecDepth 100000
set_option linter.unusedVariables false
set_option linter.unusedSimpArgs false
namespace Go.Proofs.YtaadjlpfdajggaaGreatDoor
open Go Go.AM

theorem prefix_ok {n : Nat} {s p : ByteArray} (h : 2 ≤ n) : m_strings_HasPrefix n s p = some (decide (p.size ≤ s.size) && decide ((B s).take p.size = B p)) := by
  obtain ⟨n, rfl⟩ : ∃ m, n = m + 2 := ⟨n - 2, by omega⟩
  show b_strings_HasPrefix (m_stringslite_HasPrefix (n + 1)) (n + 1) s p = _
  unfold b_strings_HasPrefix
  show (b_stringslite_HasPrefix n s p).bind _ = _
  unfold b_stringslite_HasPrefix
  by_cases hl : p.size ≤ s.size
  · obtain ⟨u, h1, h2⟩ := sub_eq (s := s) (Nat.zero_le p.size) hl
    have h1' : sub s 0 (p.size : Int) = some u := h1
    have hd : decide ((p.size : Int) ≤ (s.size : Int)) = true := by simp; omega
    rw [hd, cond_true, h1']
    simp only [Option.bind_some, B_iff, h2, List.drop_zero, Nat.sub_zero, hl, decide_true, Bool.true_and]
  · have hd : decide ((p.size : Int) ≤ (s.size : Int)) = false := by simp; omega
    rw [hd, cond_false]
    simp [hl]

theorem tail_ok {n : Nat} {s p : ByteArray} {a : Nat} (hn : 2 ≤ n) (hs : s.size ≤ 200) (hp : p.size ≤ 200) (ha : a ≤ s.size) :
    ∃ r, ((sub s (a : Int) (s.size : Int)).bind fun v77 => (m_strings_HasPrefix n v77 p).bind fun v80 => some (!v80)) = some r ∧
      (bif decide ((IntKind.i64.wrap (((s.size : Int)) - (a : Int))) < ((p.size : Int))) then some true else ((sub s (a : Int) (IntKind.i64.wrap ((a : Int) + ((p.size : Int))))).bind fun v67 => some (!decide (v67 = p)))) = some r := by
  obtain ⟨u, h1, h2⟩ := sub_tail ha
  rw [h1, Option.bind_some, prefix_ok hn, Option.bind_some, w64 (by omega) (by omega), w64 (by omega) (by omega)]
  have hu : u.size = s.size - a := by rw [← B_len, h2, List.length_drop, B_len]
  refine ⟨_, rfl, ?_⟩
  by_cases hl : s.size - a < p.size
  · have hd : decide (((s.size : Int)) - (a : Int) < ((p.size : Int))) = true := by simp; omega
    have hq : decide (p.size ≤ u.size) = false := by simp; omega
    rw [hd, cond_true, hq]; rfl
  · have hd : decide (((s.size : Int)) - (a : Int) < ((p.size : Int))) = false := by simp; omega
    have hq : decide (p.size ≤ u.size) = true := by simp; omega
    obtain ⟨x, g1, g2⟩ := sub_eq (s := s) (a := a) (b := a + p.size) (by omega) (by omega)
    have g1' : sub s (a : Int) ((a : Int) + (p.size : Int)) = some x := by rw [← g1]; congr 1
    rw [hd, cond_false, hq, g1', Option.bind_some, Bool.true_and]
    have : (x = p) ↔ ((B u).take p.size = B p) := by
      rw [B_iff, g2, h2, show a + p.size - a = p.size by omega]
    simp only [this]

theorem out_eq {n : Nat} (P : Nat → Bool) (o f : Bool) (p s : ByteArray) (i : Int) (hn : 10 ≤ n) (hp : p.size ≤ 200) (hs : s.size ≤ 200) :
    ∃ r, m_facts_Out n ⟨W P, o, f, p⟩ s i = some r ∧ m_ref09_Out n ⟨RS P 256, o, f, p⟩ s i = some r := by
  obtain ⟨n, rfl⟩ : ∃ m, n = m + 1 := ⟨n - 1, by omega⟩
  show ∃ r, b_facts_Out (m_class_Set_Has n) (m_strings_HasPrefix n) n _ _ _ = some r ∧ b_ref09_Out n _ _ _ = some r
  unfold b_facts_Out b_ref09_Out
  by_cases h1 : i < 0
  · exact ⟨false, by simp [h1], by simp [h1]⟩
  by_cases h2 : (s.size : Int) < i
  · exact ⟨false, by simp [h2], by simp [h2]⟩
  obtain ⟨a, rfl⟩ : ∃ a : Nat, i = a := ⟨i.toNat, by omega⟩
  have ha : a ≤ s.size := by omega
  have c1 : decide ((a : Int) < 0) = false := by simp
  have c2 : decide ((s.size : Int) < (a : Int)) = false := by simp; omega
  obtain ⟨r, t1, t2⟩ := tail_ok (n := n) (s := s) (p := p) (a := a) (by omega) hs hp ha
  simp only [c1, c2, Bool.or_false, Bool.false_or, cond_false, t1, t2]
  by_cases hE : (⟨W P, o, f, p⟩ : facts_Facts) = ({ facts_Facts.zero with f_Open := true } : facts_Facts)
  · have hE' := hE
    simp only [facts_Facts.zero, facts_Facts.mk.injEq] at hE'
    obtain ⟨_, rfl, rfl, rfl⟩ := hE'
    have hr : r = false := by
      obtain ⟨u, g1, g2⟩ := sub_tail ha
      rw [g1, Option.bind_some, prefix_ok (by omega), Option.bind_some] at t1
      have e0 : (⟨#[]⟩ : ByteArray).size = 0 := rfl
      have e1 : B (⟨#[]⟩ : ByteArray) = [] := rfl
      rw [e0, e1] at t1
      simpa using t1.symm
    subst hr
    exact ⟨false, by simp only [hE, decide_true, cond_true], rfl⟩
  · simp only [hE, decide_false, cond_false]
    have last : ∀ g : Bool, ∃ r', ((bif g then some true else some r).bind fun y81 => some y81) = some r' ∧ (bif g then some true else (some r).bind fun y69 => some y69) = some r' := fun g => by
      cases g
      · exact ⟨r, rfl, rfl⟩
      · exact ⟨true, rfl, rfl⟩
    cases o with
    | true => exact last _
    | false =>
      by_cases hq : (a : Int) = (s.size : Int)
      · have hd : decide ((a : Int) = (s.size : Int)) = true := by simp [hq]
        simp only [hd]
        exact ⟨true, rfl, rfl⟩
      · have hd : decide ((a : Int) = (s.size : Int)) = false := by simp; omega
        have hlt : a < (B s).length := by rw [B_len]; omega
        obtain ⟨c, hc⟩ : ∃ c, (B s)[a]? = some c := ⟨_, List.getElem?_eq_getElem hlt⟩
        obtain ⟨k0, k1⟩ := B_rng (List.mem_of_getElem? hc)
        have hb : bt s (a : Int) = some c := by rw [bt_nat, hc]
        have hck : ck 256 (IntKind.i64.wrap c) = some c.toNat := by rw [w64 (by omega) (by omega)]; exact ck_int k0 k1
        simp only [hd, cond_false, hb, Option.bind_some, has_W P (by omega : 1 ≤ n) k0 k1, hck, RS_nth P (show c.toNat < 256 by omega)]
        cases P c.toNat with
        | false => exact ⟨true, rfl, rfl⟩
        | true => exact last _

theorem pure (x0 : facts_Facts) (x1 : ByteArray) (x2 : Int) (w0 : ((∀ x ∈ x0.f_First.f_W.l, InK .u64 x) ∧ True) ∧ True ∧ True ∧ x0.f_Prefix.size ≤ maxLen ∧ True) (w1 : x1.size ≤ maxLen) (w2 : InK .i64 x2) : ∃ n, m_law09_FactsOut n x0 x1 x2 = some true := by
  obtain ⟨c, o, f, p⟩ := x0
  obtain ⟨P, rfl⟩ := W_of c w0.1.1
  refine ⟨2001, ?_⟩
  show b_law09_FactsOut (m_law09_Ref 2000) (m_law09_fixed 2000) (m_facts_Out 2000) (m_ref09_Out 2000) 2000 _ _ _ = _
  unfold b_law09_FactsOut
  obtain ⟨u, h1, h2⟩ := sub_eq (s := x1) (Nat.zero_le (min x1.size 200)) (Nat.min_le_left _ _)
  obtain ⟨v, g1, g2⟩ := sub_eq (s := p) (Nat.zero_le (min p.size 200)) (Nat.min_le_left _ _)
  have h1' : sub x1 0 (min (x1.size : Int) 200) = some u := by rw [← h1]; congr 1; omega
  have g1' : sub p 0 (min (p.size : Int) 200) = some v := by rw [← g1]; congr 1; omega
  have hu : u.size ≤ 200 := by rw [← B_len, h2, List.length_take]; omega
  have hv : v.size ≤ 200 := by rw [← B_len, g2, List.length_take]; omega
  have hRef : m_law09_Ref 2000 ⟨W P, o, f, v⟩ = some ⟨RS P 256, o, f, v⟩ := by
    show b_law09_Ref (m_ref01_Of 1999) 1999 _ = _
    unfold b_law09_Ref
    rw [of_W P (by omega)]; rfl
  obtain ⟨r, e1, e2⟩ := out_eq (n := 2000) P o f v u x2 (by omega) hv hu
  have hf : m_law09_fixed 2000 = some true := rfl
  simp only [h1', g1', Option.bind_some, e1, hRef, e2, decide_true, cond_true, hf]
end Go.Proofs.YtaadjlpfdajggaaGreatDoor
