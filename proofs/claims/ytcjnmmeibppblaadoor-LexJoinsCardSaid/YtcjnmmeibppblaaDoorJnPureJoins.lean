/-
  THE PLAIN LAW OF LexJoins: the tokens of two texts, one behind the other.
-/
import Derived.Test.YtcjnmmeibppblaaDoorJnPureSame
import Derived.Test.YtcjnmmeibppblaaDoorLaw2
set_option maxRecDepth 100000
set_option linter.unusedVariables false
set_option linter.unusedSimpArgs false
namespace Go.Proofs.YtcjnmmeibppblaaDoor.lexJoins
open Go Go.AM

/-- What may stand behind: it begins neither with ? nor with +. -/
def Beh (q : List Int) : Prop := q.head? ≠ some 63 ∧ q.head? ≠ some 43
theorem esc_app {l q : List Int} {a : IS} {k : Nat} (h : esc l = some (a, k)) : esc (l ++ q) = some (a, k) := by
  cases l with
  | nil => cases h
  | cons c r =>
    rw [List.cons_append]
    simp only [esc] at h ⊢
    by_cases hx : c = 120
    · subst hx
      simp only [show ¬ ((120 : Int) = 100) by decide, show ¬ ((120 : Int) = 68) by decide, show ¬ ((120 : Int) = 119) by decide, show ¬ ((120 : Int) = 87) by decide, show ¬ ((120 : Int) = 115) by decide, show ¬ ((120 : Int) = 83) by decide, if_false, if_true] at h ⊢
      match r, h with
      | [], h => cases h
      | [x], h => cases h
      | x :: y :: r, h => exact h
    · simp only [hx, if_false] at h ⊢
      exact h
theorem item_app {l q : List Int} {a : IS} {k : Nat} (h : item l = some (a, k)) : item (l ++ q) = some (a, k) := by
  cases l with
  | nil => cases h
  | cons c r =>
    rw [List.cons_append]
    simp only [item] at h ⊢
    by_cases h1 : c = 91 ∨ c = 93 ∨ c = 45
    · rw [if_pos h1] at h; cases h
    rw [if_neg h1] at h ⊢
    by_cases h2 : c = 92
    · rw [if_pos h2] at h ⊢
      cases he : esc r with
      | none => rw [he] at h; cases h
      | some x => obtain ⟨b, j⟩ := x; rw [esc_app he, ← he]; exact h
    · rw [if_neg h2] at h ⊢; exact h
theorem span_app {l q : List Int} (hl : Byt l) {P : Nat → Bool} {k : Nat} (h : span l = some (P, k)) (hk : k < l.length) : span (l ++ q) = some (P, k) := by
  simp only [span] at h ⊢
  cases hi : item l with
  | none => rw [hi] at h; cases h
  | some x =>
    obtain ⟨a, n⟩ := x
    rw [hi] at h
    rw [item_app hi]
    simp only [] at h ⊢
    have hr := item_rng hl hi
    by_cases h45 : l[n]? = some 45
    · have hn : n < l.length := by
        rcases Nat.lt_or_ge n l.length with h' | h'
        · exact h'
        · rw [List.getElem?_eq_none h'] at h45; cases h45
      rw [if_pos h45] at h
      rw [List.getElem?_append_left hn, if_pos h45, List.drop_append_of_le_length (by omega)]
      cases hj : item (l.drop (n + 1)) with
      | none => rw [hj] at h; cases h
      | some y => obtain ⟨b, m⟩ := y; rw [item_app hj, ← hj] ; rw [hj] at h ⊢; exact h
    · rw [if_neg h45] at h
      injection h with h
      injection h with h3 h4
      subst h4
      rw [List.getElem?_append_left hk, if_neg h45, h3]
theorem items_app {q : List Int} : ∀ (k k' : Nat) (l : List Int) (f : Bool) (P Q : Nat → Bool) (c c' : Nat), Byt l → k ≤ k' → items k l f P c = some (Q, c') → items k' (l ++ q) f P c = some (Q, c') := by
  intro k
  induction k with
  | zero => intro k' l f P Q c c' _ _ h; cases h
  | succ k ih =>
    intro k' l f P Q c c' hl hk h
    obtain ⟨k', rfl⟩ : ∃ m, k' = m + 1 := ⟨k' - 1, by omega⟩
    rw [items] at h ⊢
    have hne : l ≠ [] := by
      intro e
      subst e
      by_cases h1 : f = false ∧ ([] : List Int).head? = some 93
      · cases h1.2
      · rw [if_neg h1] at h; cases h
    have hh : (l ++ q).head? = l.head? := by cases l with
      | nil => exact absurd rfl hne
      | cons a l => rfl
    rw [hh]
    by_cases h1 : f = false ∧ l.head? = some 93
    · rw [if_pos h1] at h ⊢; exact h
    · rw [if_neg h1] at h ⊢
      cases hs : span l with
      | none => rw [hs] at h; cases h
      | some x =>
        obtain ⟨R, m⟩ := x
        rw [hs] at h
        simp only [] at h
        have hr := span_rng hl hs
        have hm : m < l.length := by
          rcases Nat.lt_or_ge m l.length with h' | h'
          · exact h'
          · have he : l.drop m = [] := List.drop_eq_nil_of_le h'
            rw [he] at h
            cases k with
            | zero => cases h
            | succ k => rw [items] at h; simp [span, item] at h
        rw [span_app hl hs hm]
        simp only []
        rw [List.drop_append_of_le_length (by omega)]
        exact ih k' _ _ _ _ _ _ (hl.drop m) (by omega) h
theorem cls_app {l q : List Int} (hl : Byt l) {P : Nat → Bool} {k : Nat} (h : cls l = some (P, k)) : cls (l ++ q) = some (P, k) := by
  cases l with
  | nil => cases h
  | cons c r =>
    have hr : Byt r := fun c hc => hl c (by simp [hc])
    rw [List.cons_append]
    rw [cls] at h ⊢
    have hne : r ≠ [] := by
      intro e
      subst e
      simp [items, span, item] at h
    have hh : (r ++ q).head? = r.head? := by cases r with
      | nil => exact absurd rfl hne
      | cons a r => rfl
    rw [hh]
    by_cases h1 : r.head? = some 94
    · rw [if_pos h1] at h ⊢
      cases hi : items (r.length + 1) (r.drop 1) true (fun _ => false) 2 with
      | none => rw [hi] at h; cases h
      | some x =>
        obtain ⟨Q, m⟩ := x
        have hl1 : 1 ≤ r.length := by cases r with
          | nil => exact absurd rfl hne
          | cons a r => simp
        rw [List.drop_append_of_le_length hl1, items_app _ ((r ++ q).length + 1) _ _ _ _ _ _ (hr.drop 1) (by simp) hi, ← hi]
        rw [hi] at h ⊢
        exact h
    · rw [if_neg h1] at h ⊢
      exact items_app _ ((r ++ q).length + 1) _ _ _ _ _ _ hr (by simp) h
theorem pre_app {h l q : List Int} (e : pre h l = true) : pre h (l ++ q) = true := by
  have hl := pre_len e
  rw [pre, decide_eq_true_iff] at e ⊢
  rw [List.take_append_of_le_length hl]; exact e
theorem pre_long {h l q : List Int} (e : h.length ≤ l.length) : pre h (l ++ q) = pre h l := by rw [pre, pre, List.take_append_of_le_length e]
theorem flg_app {q : List Int} : ∀ {l fl f : List Int}, flg fl l = some f → flg fl (l ++ q) = some f := by
  intro l
  induction l with
  | nil => intro fl f h; cases h
  | cons c r ih =>
    intro fl f h
    rw [List.cons_append]
    rw [flg] at h ⊢
    by_cases h1 : c = 58 ∧ fl ≠ []
    · rw [if_pos h1] at h ⊢; exact h
    · rw [if_neg h1] at h ⊢
      by_cases h2 : (c ≠ 105 ∧ c ≠ 109 ∧ c ≠ 115) ∨ c ∈ fl
      · rw [if_pos h2] at h; cases h
      · rw [if_neg h2] at h ⊢; exact ih h
theorem flg_hd {l f : List Int} (h : flg [] l = some f) : l.head? = some 105 ∨ l.head? = some 109 ∨ l.head? = some 115 := by
  cases l with
  | nil => cases h
  | cons c r =>
    rw [flg, if_neg (by simp)] at h
    by_cases h2 : (c ≠ 105 ∧ c ≠ 109 ∧ c ≠ 115) ∨ c ∈ ([] : List Int)
    · rw [if_pos h2] at h; cases h
    · simp only [List.head?_cons, Option.some.injEq]
      simp at h2
      omega
theorem opn_app {l q : List Int} (hq : Beh q) (h40 : l.head? = some 40) {t : STok} {k : Nat} (h : opn l = .ok (t, k)) : opn (l ++ q) = .ok (t, k) := by
  obtain ⟨r, rfl⟩ : ∃ r, l = 40 :: r := by
    cases l with
    | nil => cases h40
    | cons a l => injection h40 with h; exact ⟨l, by rw [h]⟩
  have h0 : pre [40, 63] (40 :: r ++ q) = pre [40, 63] (40 :: r) := by
    cases r with
    | nil =>
      rw [show pre [40, 63] [(40 : Int)] = false by decide]
      cases q with
      | nil => rfl
      | cons a q =>
        have : a ≠ 63 := fun e => hq.1 (by rw [e]; rfl)
        simp [pre, this]
    | cons a r => exact pre_long (by simp)
  simp only [opn, h0] at h ⊢
  by_cases hp0 : pre [40, 63] (40 :: r) = false
  · rw [if_pos hp0] at h ⊢; exact h
  rw [if_neg hp0] at h ⊢
  have step : ∀ {hd : List Int} {x y y' : Except Int (STok × Nat)}, (if pre hd (40 :: r) = true then x else y) = .ok (t, k) → (pre hd (40 :: r) = false → pre hd (40 :: r ++ q) = false ∧ (y = .ok (t, k) → y' = .ok (t, k))) → (if pre hd (40 :: r ++ q) = true then x else y') = .ok (t, k) := by
    intro hd x y y' h hf
    cases hp : pre hd (40 :: r) with
    | true => rw [pre_app hp, if_pos rfl]; rw [hp, if_pos rfl] at h; exact h
    | false =>
      obtain ⟨f1, f2⟩ := hf hp
      rw [f1, if_neg (by decide)]
      rw [hp, if_neg (by decide)] at h
      exact f2 h
  -- where the third sign is a flag, no head fits
  by_cases hfl : ∃ f, flg [] ((40 :: r).drop 2) = some f
  · obtain ⟨f, hf⟩ := hfl
    have hd := flg_hd hf
    have h63 : r.head? = some 63 := by
      cases r with
      | nil => simp [pre] at hp0
      | cons a r => simp [pre] at hp0; simp [hp0]
    obtain ⟨r, rfl⟩ : ∃ r', r = 63 :: r' := by
      cases r with
      | nil => cases h63
      | cons a r => injection h63 with h; exact ⟨r, by rw [h]⟩
    obtain ⟨x, r, rfl⟩ : ∃ x r', r = x :: r' := by
      cases r with
      | nil => simp at hd
      | cons a r => exact ⟨a, r, rfl⟩
    have hx : x = 105 ∨ x = 109 ∨ x = 115 := by simpa using hd
    have e : ∀ (a b : Int) (l : List Int), a ≠ x → pre (40 :: 63 :: a :: l) (40 :: 63 :: x :: r ++ q) = false := fun a b l hne => by
      rw [pre, decide_eq_false_iff_not]
      simp only [List.length_cons, List.cons_append, List.take_succ_cons, List.cons.injEq, true_and, not_and]
      intro h; exact absurd h.symm hne
    have e' : ∀ (a b : Int) (l : List Int), a ≠ x → pre (40 :: 63 :: a :: l) (40 :: 63 :: x :: r) = false := fun a b l hne => by
      rw [pre, decide_eq_false_iff_not]
      simp only [List.length_cons, List.take_succ_cons, List.cons.injEq, true_and, not_and]
      intro h; exact absurd h.symm hne
    have n1 : (58 : Int) ≠ x := by omega
    have n2 : (61 : Int) ≠ x := by omega
    have n3 : (33 : Int) ≠ x := by omega
    have n4 : (60 : Int) ≠ x := by omega
    have n5 : (62 : Int) ≠ x := by omega
    rw [e' 58 0 [] n1, e' 61 0 [] n2, e' 33 0 [] n3, e' 60 0 [61] n4, e' 60 0 [33] n4, e' 62 0 [] n5] at h
    rw [e 58 0 [] n1, e 61 0 [] n2, e 33 0 [] n3, e 60 0 [61] n4, e 60 0 [33] n4, e 62 0 [] n5]
    simp only [Bool.false_eq_true, if_false] at h ⊢
    rw [List.drop_append_of_le_length (by simp), flg_app hf]
    rw [hf] at h
    exact h
  · have hn : flg [] ((40 :: r).drop 2) = none := by
      cases hf : flg [] ((40 :: r).drop 2) with
      | none => rfl
      | some f => exact absurd ⟨f, hf⟩ hfl
    rw [hn] at h
    -- one of the heads fits; those ahead of it do not fit the longer text, either
    have nf : ∀ {hd : List Int}, hd.length ≤ (40 :: r).length → pre hd (40 :: r) = false → pre hd (40 :: r ++ q) = false := fun hl hp => by rw [pre_long hl, hp]
    have hlen : 3 ≤ (40 :: r).length := by
      rcases Nat.lt_or_ge (40 :: r).length 3 with hlt | hge
      · exfalso
        have g : ∀ (hd : List Int), 3 ≤ hd.length → pre hd (40 :: r) = false := fun hd hh => by
          cases hp : pre hd (40 :: r) with
          | false => rfl
          | true => have := pre_len hp; omega
        rw [g [40, 63, 58] (by decide), g [40, 63, 61] (by decide), g [40, 63, 33] (by decide), g [40, 63, 60, 61] (by decide), g [40, 63, 60, 33] (by decide), g [40, 63, 62] (by decide)] at h
        simp at h
      · exact hge
    refine step h fun p1 => ⟨nf hlen p1, fun h => ?_⟩
    refine step h fun p2 => ⟨nf hlen p2, fun h => ?_⟩
    refine step h fun p3 => ⟨nf hlen p3, fun h => ?_⟩
    by_cases h4 : 4 ≤ (40 :: r).length
    · refine step h fun p4 => ⟨nf h4 p4, fun h => ?_⟩
      refine step h fun p5 => ⟨nf h4 p5, fun h => ?_⟩
      refine step h fun p6 => ⟨nf hlen p6, fun h => by cases h⟩
    · have g : ∀ (hd : List Int), 4 ≤ hd.length → pre hd (40 :: r) = false := fun hd hh => by
        cases hp : pre hd (40 :: r) with
        | false => rfl
        | true => have := pre_len hp; omega
      rw [g [40, 63, 60, 61] (by decide), g [40, 63, 60, 33] (by decide)] at h
      simp only [Bool.false_eq_true, if_false] at h
      cases hp : pre [40, 63, 62] (40 :: r) with
      | false => rw [hp] at h; cases h
      | true =>
        have h62 : ∃ r', r = 63 :: 62 :: r' := by
          rw [pre, decide_eq_true_iff] at hp
          match r, hp with
          | [], hp => simp at hp
          | [a], hp => simp at hp
          | a :: b :: r, hp => simp at hp; exact ⟨r, by rw [hp.1, hp.2]⟩
        obtain ⟨r', rfl⟩ := h62
        rw [hp] at h
        have e4 : pre [40, 63, 60, 61] (40 :: 63 :: 62 :: r' ++ q) = false := by rw [pre, decide_eq_false_iff_not]; simp
        have e5 : pre [40, 63, 60, 33] (40 :: 63 :: 62 :: r' ++ q) = false := by rw [pre, decide_eq_false_iff_not]; simp
        rw [e4, e5, pre_app hp]
        simp only [Bool.false_eq_true, if_false, if_true] at h ⊢
        exact h
theorem cntk_app {q : List Int} : ∀ (j : Nat) (l : List Int) (n : Int) (i : Nat), l.drop ((cntk j l n i).2 - i) ≠ [] → cntk j (l ++ q) n i = cntk j l n i := by
  intro j
  induction j with
  | zero => intro l n i _; cases l <;> cases q <;> rfl
  | succ j ih =>
    intro l n i h
    cases l with
    | nil => simp at h
    | cons c r =>
      rw [List.cons_append]
      rw [cntk] at h ⊢
      rw [cntk]
      by_cases hc : 48 ≤ c ∧ c ≤ 57
      · rw [if_pos hc] at h ⊢
        rw [if_pos hc]
        refine ih r _ _ fun e => h ?_
        have hi : i + 1 ≤ (cntk j r (n * 10 + (c - 48)) (i + 1)).2 := by
          have key : ∀ (j : Nat) (r : List Int) (n : Int) (i : Nat), i ≤ (cntk j r n i).2 := by
            intro j
            induction j with
            | zero => intro r n i; cases r <;> exact Nat.le_refl _
            | succ j ih =>
              intro r n i
              cases r with
              | nil => exact Nat.le_refl _
              | cons c r =>
                rw [cntk]
                split
                · exact Nat.le_trans (by omega) (ih r _ (i + 1))
                · exact Nat.le_refl _
          exact key _ _ _ _
        rw [show (cntk j r (n * 10 + (c - 48)) (i + 1)).2 - i = ((cntk j r (n * 10 + (c - 48)) (i + 1)).2 - (i + 1)) + 1 by omega, List.drop_succ_cons]
        exact e
      · rw [if_neg hc]
        rw [if_neg hc]
theorem cnt_app {l q : List Int} (h : l.drop (cnt l).2 ≠ []) : cnt (l ++ q) = cnt l := cntk_app 3 l 0 0 (by simpa [cnt] using h)
theorem hd_app {l q : List Int} {k : Nat} {c : Int} (h : (l.drop k).head? = some c) : ((l ++ q).drop k).head? = some c := by
  have := hd_lt h
  rw [List.head?_drop] at h ⊢
  rw [List.getElem?_append_left this]; exact h
theorem ne_of_hd {l : List Int} {c : Int} (h : l.head? = some c) : l ≠ [] := fun e => by rw [e] at h; cases h
theorem brc_app {r q : List Int} {x : Int × Int × Nat} (h : brc r = some x) : brc (r ++ q) = some x := by
  simp only [brc] at h ⊢
  by_cases h0 : (cnt r).2 = 0
  · rw [if_pos h0] at h; cases h
  rw [if_neg h0] at h
  by_cases h44 : (r.drop (cnt r).2).head? = some 44
  · rw [if_pos h44] at h
    have e1 := cnt_app (q := q) (ne_of_hd h44)
    have hlt := hd_lt h44
    rw [e1, if_neg h0, if_pos (hd_app h44), List.drop_append_of_le_length (by omega)]
    by_cases h125 : ((r.drop ((cnt r).2 + 1)).drop (cnt (r.drop ((cnt r).2 + 1))).2).head? = some 125
    · rw [if_pos h125] at h
      rw [cnt_app (ne_of_hd h125), if_pos (hd_app h125)]
      exact h
    · rw [if_neg h125] at h; cases h
  · rw [if_neg h44] at h
    by_cases h125 : (r.drop (cnt r).2).head? = some 125
    · rw [if_pos h125] at h
      have e1 := cnt_app (q := q) (ne_of_hd h125)
      have h44' : ¬ (((r ++ q).drop (cnt r).2).head? = some 44) := by rw [hd_app h125]; simp
      rw [e1, if_neg h0, if_neg h44', if_pos (hd_app h125)]
      exact h
    · rw [if_neg h125] at h; cases h
theorem md_app {l q : List Int} (hq : Beh q) : md (l ++ q) = md l := by
  cases l with
  | nil =>
    cases q with
    | nil => rfl
    | cons a q =>
      have h1 : a ≠ 63 := fun e => hq.1 (by rw [e]; rfl)
      have h2 : a ≠ 43 := fun e => hq.2 (by rw [e]; rfl)
      simp [md, pre, h1, h2]
  | cons a l => simp [md, pre]
theorem rep_app {a b : Int} {l q : List Int} {k : Nat} (hq : Beh q) (hk : k ≤ l.length) : rep a b (l ++ q) k = rep a b l k := by
  simp only [rep]
  rw [List.drop_append_of_le_length hk, md_app hq]
theorem qnt_app {l q : List Int} (hl : Byt l) (hq : Beh q) {t : STok} {k : Nat} (h : qnt l = .ok (t, k)) : qnt (l ++ q) = .ok (t, k) := by
  cases l with
  | nil => cases h
  | cons c r =>
    rw [List.cons_append]
    have e : ∀ (a b : Int), rep a b (c :: (r ++ q)) 1 = rep a b (c :: r) 1 := fun a b => by rw [← List.cons_append]; exact rep_app hq (by simp)
    simp only [qnt] at h ⊢
    rw [e, e, e]
    by_cases h1 : c = 43
    · rw [if_pos h1] at h ⊢; exact h
    rw [if_neg h1] at h ⊢
    by_cases h2 : c = 63
    · rw [if_pos h2] at h ⊢; exact h
    rw [if_neg h2] at h ⊢
    by_cases h3 : c = 123
    · rw [if_pos h3] at h ⊢
      cases hb : brc r with
      | none => rw [hb] at h; cases h
      | some x =>
        obtain ⟨a, b, j⟩ := x
        have hr := brc_rng hb
        rw [brc_app hb]
        rw [hb] at h
        simp only [] at h ⊢
        by_cases h4 : 100 < Max.max a b
        · rw [if_pos h4] at h; cases h
        rw [if_neg h4] at h ⊢
        by_cases h5 : b ≠ -1 ∧ b < a
        · rw [if_pos h5] at h; cases h
        rw [if_neg h5] at h ⊢
        rw [← List.cons_append, rep_app hq (by simp; omega)]
        exact h
    · rw [if_neg h3] at h ⊢; exact h
theorem escd_app {r q : List Int} {t : STok} {k : Nat} (h : escd r = .ok (t, k)) : escd (r ++ q) = .ok (t, k) := by
  cases r with
  | nil => simp [escd, pre] at h
  | cons c r =>
    rw [escd.eq_def] at h ⊢
    rw [pre_long (by simp), pre_long (by simp)]
    by_cases h1 : pre [98] (c :: r) = true
    · rw [if_pos h1] at h ⊢; exact h
    rw [if_neg h1] at h ⊢
    by_cases h2 : pre [66] (c :: r) = true
    · rw [if_pos h2] at h ⊢; exact h
    rw [if_neg h2] at h ⊢
    simp only [List.cons_append] at h ⊢
    by_cases h3 : 49 ≤ c ∧ c ≤ 57
    · rw [if_pos h3] at h ⊢; exact h
    rw [if_neg h3] at h ⊢
    cases he : esc (c :: r) with
    | none => rw [he] at h; cases h
    | some x =>
      obtain ⟨a, j⟩ := x
      have := esc_app (q := q) he
      rw [List.cons_append] at this
      rw [this]
      rw [he] at h
      exact h
theorem tok_app {l q : List Int} (hl : Byt l) (hq : Beh q) {t : STok} {k : Nat} (h : tok l = .ok (t, k)) : tok (l ++ q) = .ok (t, k) := by
  cases l with
  | nil => cases h
  | cons c r =>
    rw [List.cons_append]
    rw [tok] at h ⊢
    iterate 5
      split at h
      · rename_i hc; rw [if_pos hc]; exact h
      rename_i hc; rw [if_neg hc]
    split at h
    · rename_i hc; rw [if_pos hc]; rw [← List.cons_append]; exact opn_app hq (by rw [hc]; rfl) h
    rename_i hc; rw [if_neg hc]
    split at h
    · rename_i hc; rw [if_pos hc]; rw [← List.cons_append]; exact qnt_app hl hq h
    rename_i hc; rw [if_neg hc]
    split at h
    · rename_i hc; rw [if_pos hc]
      cases hx : cls (c :: r) with
      | none => rw [hx] at h; cases h
      | some x =>
        obtain ⟨P, j⟩ := x
        rw [← List.cons_append, cls_app hl hx]
        rw [hx] at h
        exact h
    rename_i hc; rw [if_neg hc]
    split at h
    · rename_i hc; rw [if_pos hc]; exact escd_app h
    rename_i hc; rw [if_neg hc]
    split at h
    · cases h
    rename_i hc; rw [if_neg hc]
    exact h
theorem toks_fuel : ∀ (k k' : Nat) (l : List Int), Byt l → l.length < k → l.length < k' → toks k l = toks k' l := by
  intro k
  induction k with
  | zero => intro k' l _ h; omega
  | succ k ih =>
    intro k' l hl h h'
    obtain ⟨k', rfl⟩ : ∃ m, k' = m + 1 := ⟨k' - 1, by omega⟩
    rw [toks, toks]
    by_cases h0 : l = []
    · rw [if_pos h0, if_pos h0]
    rw [if_neg h0, if_neg h0]
    have hr := tok_rng hl
    generalize tok l = x at hr
    match x, hr with
    | .error e, hr => rfl
    | .ok (t, m), hr =>
      have := hr t m rfl
      simp only []
      rw [ih k' (l.drop m) (hl.drop m) (by rw [List.length_drop]; omega) (by rw [List.length_drop]; omega)]
theorem toks_app {q : List Int} {us : List STok} (hq : Beh q) (hqb : Byt q) (hu : toks (q.length + 1) q = .ok us) : ∀ (k : Nat) (l : List Int) (ts : List STok) (K : Nat), Byt l → l.length < k → toks k l = .ok ts → (l ++ q).length < K → toks K (l ++ q) = .ok (ts ++ us) := by
  intro k
  induction k with
  | zero => intro l ts K _ h; omega
  | succ k ih =>
    intro l ts K hl h ht hK
    rw [toks] at ht
    by_cases h0 : l = []
    · rw [if_pos h0] at ht
      injection ht with ht
      subst ht h0
      rw [List.nil_append, List.nil_append, ← hu]
      exact toks_fuel _ _ _ hqb (by simpa using hK) (by omega)
    rw [if_neg h0] at ht
    obtain ⟨K, rfl⟩ : ∃ m, K = m + 1 := ⟨K - 1, by omega⟩
    have hr := tok_rng hl
    have ha : ∀ t m, tok l = .ok (t, m) → tok (l ++ q) = .ok (t, m) := fun t m h => tok_app hl hq h
    rw [toks, if_neg (by simp [h0])]
    generalize tok l = x at hr ht ha
    match x, hr, ht, ha with
    | .error e, hr, ht, ha => cases ht
    | .ok (t, m), hr, ht, ha =>
      have hm := hr t m rfl
      rw [ha t m rfl]
      simp only [] at ht ⊢
      cases hx : toks k (l.drop m) with
      | error e => rw [hx] at ht; cases ht
      | ok vs =>
        rw [hx] at ht
        injection ht with ht
        subst ht
        rw [List.drop_append_of_le_length hm.2]
        rw [List.length_append] at hK
        rw [ih (l.drop m) vs K (hl.drop m) (by rw [List.length_drop]; omega) hx (by rw [List.length_append, List.length_drop]; omega)]
        rfl
theorem toks_len : ∀ (k : Nat) (l : List Int) (ts : List STok), Byt l → toks k l = .ok ts → ts.length ≤ l.length := by
  intro k
  induction k with
  | zero => intro l ts _ h; cases h
  | succ k ih =>
    intro l ts hl ht
    rw [toks] at ht
    by_cases h0 : l = []
    · rw [if_pos h0] at ht; injection ht with ht; subst ht; simp
    rw [if_neg h0] at ht
    have hr := tok_rng hl
    generalize tok l = x at hr ht
    match x, hr, ht with
    | .error e, hr, ht => cases ht
    | .ok (t, m), hr, ht =>
      have hm := hr t m rfl
      simp only [] at ht
      cases hx : toks k (l.drop m) with
      | error e => rw [hx] at ht; cases ht
      | ok vs =>
        rw [hx] at ht
        injection ht with ht
        subst ht
        have := ih _ _ (hl.drop m) hx
        rw [List.length_drop] at this
        rw [List.length_cons]; omega
theorem toks_err : ∀ (k : Nat) (l : List Int) (e : Int), Byt l → l.length < k → toks k l = .error e → e = 3 ∨ e = 4 := by
  intro k
  induction k with
  | zero => intro l e _ h; omega
  | succ k ih =>
    intro l e hl hk ht
    rw [toks] at ht
    by_cases h0 : l = []
    · rw [if_pos h0] at ht; cases ht
    rw [if_neg h0] at ht
    have hr := tok_rng hl
    have he := fun e => tok_err l (e := e)
    generalize tok l = x at hr ht he
    match x, hr, ht, he with
    | .error e', hr, ht, he => injection ht with ht; subst ht; exact he _ rfl
    | .ok (t, m), hr, ht, he =>
      have hm := hr t m rfl
      simp only [] at ht
      cases hx : toks k (l.drop m) with
      | error e' =>
        rw [hx] at ht
        injection ht with ht
        subst ht
        exact ih _ _ (hl.drop m) (by rw [List.length_drop]; omega) hx
      | ok vs => rw [hx] at ht; cases ht
theorem fixed : m_law06_fixed 2000 = some true := by kernel_rfl
theorem cut200 (x : ByteArray) : ∃ s, sub x 0 (min ((x.size : Int)) 200) = some s ∧ s.size ≤ 200 := by
  have hmin : min ((x.size : Int)) 200 = ((min x.size 200 : Nat) : Int) := by omega
  obtain ⟨s, hs, hb⟩ := sub_eq (s := x) (a := 0) (b := min x.size 200) (by omega) (by omega)
  refine ⟨s, by rw [hmin]; exact hs, ?_⟩
  have := congrArg List.length hb
  rw [B_len, List.length_take, List.length_drop, B_len] at this
  omega
theorem bad {a b : Sl lex_Token} {e f : Int} (h1 : e = 0 ∨ Sl.len a = 0) (h2 : f = 0 ∨ Sl.len b = 0) :
    ((decide (e = 0) || decide (Sl.len a = 0)) && (decide (f = 0) || decide (Sl.len b = 0))) = true := by
  rcases h1 with h1 | h1 <;> rcases h2 with h2 | h2 <;> simp [h1, h2]
theorem pure (x0 x1 : ByteArray) (_ : x0.size ≤ maxLen) (_ : x1.size ≤ maxLen) : ∃ n, m_law06_LexJoins n x0 x1 = some true := by
  refine ⟨2001, ?_⟩
  show b_law06_LexJoins (m_lex_Lex 2000) (m_ref06_Same 2000) (m_law06_Ref 2000) (m_law06_fixed 2000) 2000 x0 x1 = _
  unfold b_law06_LexJoins
  obtain ⟨s, hs, hsz⟩ := cut200 x0
  obtain ⟨u, hu, huz⟩ := cut200 x1
  have ls : ¬ 1000 < (B s).length := by rw [B_len]; omega
  have lu : ¬ 1000 < (B u).length := by rw [B_len]; omega
  rw [hs, Option.bind_some, hu, Option.bind_some, lex_eq (by omega), Option.bind_some, lex_eq (by omega), Option.bind_some, lexS, if_neg ls, lexS, if_neg lu]
  have hb : ∀ x y : Except Int (List STok), (∀ e, x = .error e → e = 3 ∨ e = 4) → (∀ e, y = .error e → e = 3 ∨ e = 4) →
      ((bif (decide ((lexR [] x).2 = 0) || decide (Sl.len (lexR [] x).1 = 0)) && (decide ((lexR [] y).2 = 0) || decide (Sl.len (lexR [] y).1 = 0)) then ((m_law06_fixed 2000).bind fun v82 => some v82) else some false).bind fun y83 => some y83) = some true := fun x y hx hy => by
    rw [bad (by cases x with | error e => exact .inr rfl | ok => exact .inl rfl) (by cases y with | error e => exact .inr rfl | ok => exact .inl rfl), cond_true, fixed]
    rfl
  have es := fun e => toks_err ((B s).length + 1) (B s) e (B_byt s) (by omega)
  have eu := fun e => toks_err ((B u).length + 1) (B u) e (B_byt u) (by omega)
  have hbb := hb _ _ es eu
  cases hx : toks ((B s).length + 1) (B s) with
  | error e =>
    have h0 : ¬ (e = 0) := by have := es e hx; omega
    rw [hx] at hbb
    have : (!decide ((lexR [] (.error e)).2 = 0)) = true := by simp [lexR, h0]
    rw [this]
    simp only [Bool.true_or, cond_true, Option.bind_some]
    exact hbb
  | ok ts =>
  cases hy : toks ((B u).length + 1) (B u) with
  | error e =>
    have h0 : ¬ (e = 0) := by have := eu e hy; omega
    rw [hx, hy] at hbb
    have : (!decide ((lexR [] (.error e)).2 = 0)) = true := by simp [lexR, h0]
    rw [this]
    simp only [Bool.or_true, cond_true, Option.bind_some]
    exact hbb
  | ok us =>
    rw [hx, hy] at hbb
    have q0 : ((!decide ((lexR [] (.ok ts)).2 = 0)) || (!decide ((lexR [] (.ok us)).2 = 0))) = false := rfl
    rw [q0, cond_false]
    -- how the second one begins
    have hq : (bif decide (0 < ((u.size : Int))) then ((bt u 0).bind fun v42 => some ((decide (v42 = 63)) || (decide (v42 = 43)))) else some false) = some (decide ((B u).head? = some 63) || decide ((B u).head? = some 43)) := by
      cases hB : B u with
      | nil =>
        have : u.size = 0 := by have := congrArg List.length hB; rwa [B_len] at this
        simp [this]
      | cons c r =>
        obtain ⟨e0, _⟩ := Go.Proofs.YtcjnmmeibppblaaDoor.hd hB
        have : (0 : Int) < (u.size : Int) := by have := congrArg List.length hB; rw [B_len, List.length_cons] at this; omega
        rw [decide_eq_true this, cond_true, e0]
        simp
    rw [hq, Option.bind_some, Option.bind_some]
    cases hq2 : (decide ((B u).head? = some 63) || decide ((B u).head? = some 43)) with
    | true => simp only [cond_true]; exact hbb
    | false =>
      simp only [cond_false]
      have hbeh : Beh (B u) := by simpa [Beh] using hq2
      have l1 := toks_len _ _ _ (B_byt s) hx
      have l2 := toks_len _ _ _ (B_byt u) hy
      rw [B_len] at l1 l2
      rw [sadd_eq (by omega), Option.bind_some, lex_eq (by omega), Option.bind_some, B_append, lexS, if_neg (by rw [List.length_append, B_len, B_len]; omega)]
      rw [toks_app hbeh (B_byt u) hy _ (B s) ts ((B s ++ B u).length + 1) (B_byt s) (by omega) hx (by omega)]
      have r : ∀ vs : List STok, vs.length ≤ 1000 → m_law06_Ref 2000 (lexR [] (.ok vs)).1 = some (some ((vs.map toLex).map toRef)) := fun vs hv => by
        have hl : Sl.l (lexR [] (.ok vs)).1 = vs.map toLex := by simp only [lexR, List.nil_append]; exact slOf_l _
        rw [ref_eq (by rw [hl]; simp; omega) (by rw [hl]; simp; omega), hl]
      rw [r ts (by omega), Option.bind_some, r us (by omega), Option.bind_some, some_app _ _ (by simp; omega), Option.bind_some, r (ts ++ us) (by simp; omega), Option.bind_some]
      simp only [lexR, decide_true, cond_true]
      rw [List.map_append, List.map_append, same_eq (by simp; omega) (by simp; omega)]
      simp only [Option.bind_some, cond_true]
      rw [fixed]
      rfl
end Go.Proofs.YtcjnmmeibppblaaDoor.lexJoins
