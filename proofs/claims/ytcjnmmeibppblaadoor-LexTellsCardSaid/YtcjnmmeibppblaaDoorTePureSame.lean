import Derived.Test.YtcjnmmeibppblaaDoorTePure6
set_option maxRecDepth 100000
set_option linter.unusedVariables false
set_option linter.unusedSimpArgs false
namespace Go.Proofs.YtcjnmmeibppblaaDoor
open Go Go.AM
def toRef (t:lex_Token):ref06_Token:=⟨t.f_Kind,t.f_Set.f_W,t.f_Min,t.f_Max,t.f_Mode,t.f_N,t.f_Flags⟩
theorem room88 {k:Nat} (h:k ≤ 1000000):k * 88 ≤ roomMost:=by
 have:(1000000 * 88:Nat) ≤ roomMost:=by decide +kernel
 omega
theorem some_app {α:Type} (l m:List α) (h:l.length + m.length ≤ 1000000):Sl.app 88 (some l) (some m) = some (some (l ++ m)):=by
 rw [Sl.app]
 show (if m.length = 0 then some (some l) else if (l.length + m.length) * 88 ≤ roomMost then some (some (l ++ m)) else none) = _
 by_cases h0:m.length = 0
 ·rw [if_pos h0,List.eq_nil_of_length_eq_zero h0,List.append_nil]
 ·rw [if_neg h0,if_pos (room88 (by omega))]
theorem nth_l {α:Type} [Inhabited α] (x:Sl α) {i:Nat} (h:i < (Sl.l x).length):Sl.nth x i = (Sl.l x)[i]:=by
 simp only [Sl.nth,List.getD_eq_getElem?_getD,List.getElem?_eq_getElem h,Option.getD_some]
theorem ref_loop {n:Nat} (x:Sl lex_Token) (hx:(Sl.l x).length ≤ 100000):∀ (k j i:Nat),k ≤ j → i ≤ (Sl.l x).length → (Sl.l x).length - i < k →
  b_law06_Ref_1 n x j (some (((Sl.l x).take i).map toRef)) (i:Int) = some (some ((Sl.l x).map toRef)):=by
 intro k
 induction k with
 | zero=>intro j i _ _ h; omega
 | succ k ih =>
  intro j i hk hi hm
  obtain ⟨j,rfl⟩:∃ m,j = m + 1:=⟨j - 1,by omega⟩
  rw [b_law06_Ref_1.eq_2]
  by_cases h:i < (Sl.l x).length
  ·have h1:(i:Int) < Sl.len x:=by rw [Sl.len]; omega
   simp only [h1,decide_true,cond_true]
   rw [ck_ok h,Option.bind_some,some_app _ _ (by simp; omega),Option.bind_some,wp1 (by omega),nth_l x h]
   rw [← ih j (i + 1) (by omega) (by omega) (by omega),List.take_add_one,List.getElem?_eq_getElem h]
   simp only [Option.toList_some,List.map_append,List.map_cons,List.map_nil]
   rfl
  ·have h1:¬ ((i:Int) < Sl.len x):=by rw [Sl.len]; omega
   obtain rfl:i = (Sl.l x).length:=by omega
   simp only [h1,decide_false,cond_false,List.take_length]
theorem ref_eq {n:Nat} {x:Sl lex_Token} (hx:(Sl.l x).length ≤ 100000) (hn:(Sl.l x).length + 2 ≤ n):m_law06_Ref n x = some (some ((Sl.l x).map toRef)):=by
 obtain ⟨n,rfl⟩:∃ m,n = m + 1:=⟨n - 1,by omega⟩
 show b_law06_Ref n x = _
 unfold b_law06_Ref
 exact ref_loop x hx ((Sl.l x).length + 1) n 0 (by omega) (by omega) (by omega)
theorem same_loop {n:Nat} {l:List ref06_Token} (hl:l.length ≤ 100000):∀ (k j i:Nat),k ≤ j → i ≤ l.length → l.length - i < k → b_ref06_Same_1 n (some l) (some l) j (i:Int) = some true:=by
 intro k
 induction k with
 | zero=>intro j i _ _ h; omega
 | succ k ih =>
  intro j i hk hi hm
  obtain ⟨j,rfl⟩:∃ m,j = m + 1:=⟨j - 1,by omega⟩
  rw [b_ref06_Same_1.eq_2]
  by_cases h:i < l.length
  ·have h1:(i:Int) < Sl.len (some l):=by rw [Sl.len]; show (i:Int) < (l.length:Int); omega
   simp only [h1,decide_true,cond_true]
   rw [ck_ok (show i < (Sl.l (some l)).length from h),Option.bind_some,Option.bind_some]
   simp only [decide_true,Bool.not_true,cond_false]
   rw [wp1 (by omega)]
   exact ih j (i + 1) (by omega) (by omega) (by omega)
  ·have h1:¬ ((i:Int) < Sl.len (some l)):=by rw [Sl.len]; show ¬ ((i:Int) < (l.length:Int)); omega
   simp only [h1,decide_false,cond_false]
theorem same_eq {n:Nat} {l:List ref06_Token} (hl:l.length ≤ 100000) (hn:l.length + 2 ≤ n):m_ref06_Same n (some l) (some l) = some true:=by
 obtain ⟨n,rfl⟩:∃ m,n = m + 1:=⟨n - 1,by omega⟩
 show b_ref06_Same n (some l) (some l) = _
 unfold b_ref06_Same
 simp only [decide_true,Bool.not_true,cond_false]
 exact same_loop hl (l.length + 1) n 0 (by omega) (by omega) (by omega)
end Go.Proofs.YtcjnmmeibppblaaDoor
