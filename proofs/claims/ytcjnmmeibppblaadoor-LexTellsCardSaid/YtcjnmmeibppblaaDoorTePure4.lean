import Derived.Test.YtcjnmmeibppblaaDoorTePure3
set_option maxRecDepth 100000
set_option linter.unusedVariables false
set_option linter.unusedSimpArgs false
namespace Go.Proofs.YtcjnmmeibppblaaDoor
open Go Go.AM
def items:Nat → List Int → Bool → (Nat → Bool) → Nat → Option ((Nat → Bool) × Nat)
 | 0,_,_,_,_=>none
 | k + 1,l,first,P,c=>if first = false ∧ l.head? = some 93 then some (P,c + 1)
  else match span l with
   | none=>none
   | some (Q,m)=>items k (l.drop m) false (fun i=>P i || Q i) (c + m)
def cls:List Int → Option ((Nat → Bool) × Nat)
 | []=>none
 | _ :: r=>if r.head? = some 94 then (items (r.length + 1) (r.drop 1) true (fun _=>false) 2).map fun x=>(fun i=>!x.1 i,x.2)
  else items (r.length + 1) r true (fun _=>false) 1
structure STok where
 kind:Int:=0
 set:Nat → Bool:=fun _=>false
 min:Int:=0
 max:Int:=0
 mode:Int:=0
 n:Int:=0
 flags:List Int:=[]
def flg:List Int → List Int → Option (List Int)
 | _,[]=>none
 | fl,c :: r=>if c = 58 ∧ fl ≠ [] then some fl else if (c ≠ 105 ∧ c ≠ 109 ∧ c ≠ 115) ∨ c ∈ fl then none else flg (fl ++ [c]) r
def opn (l:List Int):Except Int (STok × Nat) :=
 if pre [40,63] l = false then .ok ({ kind:=7 },1)
 else if pre [40,63,58] l then .ok ({ kind:=8 },3)
 else if pre [40,63,61] l then .ok ({ kind:=9 },3)
 else if pre [40,63,33] l then .ok ({ kind:=10 },3)
 else if pre [40,63,60,61] l then .ok ({ kind:=11 },4)
 else if pre [40,63,60,33] l then .ok ({ kind:=12 },4)
 else if pre [40,63,62] l then .ok ({ kind:=13 },3)
 else match flg [] (l.drop 2) with
  | none=>.error 3
  | some fl=>.ok ({ kind:=14,flags:=fl },3 + fl.length)
def cntk:Nat → List Int → Int → Nat → Int × Nat
 | 0,_,n,i=>(n,i)
 | _ + 1,[],n,i=>(n,i)
 | k + 1,c :: r,n,i=>if 48 ≤ c ∧ c ≤ 57 then cntk k r (n * 10 + (c - 48)) (i + 1) else (n,i)
def cnt (l:List Int):Int × Nat:=cntk 3 l 0 0
def brc (r:List Int):Option (Int × Int × Nat) :=
 if (cnt r).2 = 0 then none
 else if (r.drop (cnt r).2).head? = some 44 then
  if ((r.drop ((cnt r).2 + 1)).drop (cnt (r.drop ((cnt r).2 + 1))).2).head? = some 125 then some ((cnt r).1,(if (cnt (r.drop ((cnt r).2 + 1))).2 = 0 then -1 else (cnt (r.drop ((cnt r).2 + 1))).1),1 + (cnt r).2 + 1 + (cnt (r.drop ((cnt r).2 + 1))).2 + 1) else none
 else if (r.drop (cnt r).2).head? = some 125 then some ((cnt r).1,(cnt r).1,1 + (cnt r).2 + 1) else none
def md (l:List Int):Int × Nat:=if pre [63] l then (1,1) else if pre [43] l then (2,1) else (0,0)
def rep (a b:Int) (l:List Int) (k:Nat):Except Int (STok × Nat):=.ok ({ kind:=16,min:=a,max:=b,mode:=(md (l.drop k)).1 },k + (md (l.drop k)).2)
def qnt:List Int → Except Int (STok × Nat)
 | []=>.error 3
 | c :: r=>if c = 43 then rep 1 (-1) (c :: r) 1 else if c = 63 then rep 0 1 (c :: r) 1
  else if c = 123 then match brc r with
   | none=>.error 3
   | some (a,b,k)=>if 100 < Max.max a b then .error 4 else if b ≠ -1 ∧ b < a then .error 3 else rep a b (c :: r) k
  else rep 0 (-1) (c :: r) 1
def escd (r:List Int):Except Int (STok × Nat) :=
 if pre [98] r then .ok ({ kind:=4 },2) else if pre [66] r then .ok ({ kind:=5 },2)
 else match r with
  | []=>.error 3
  | c :: _=>if 49 ≤ c ∧ c ≤ 57 then .ok ({ kind:=17,n:=c - 48 },2)
   else match esc r with
    | none=>.error 3
    | some (a,k)=>.ok ({ set:=a.p },k + 1)
def tok:List Int → Except Int (STok × Nat)
 | []=>.error 3
 | c :: r =>
  if c = 46 then .ok ({ kind:=1 },1) else if c = 94 then .ok ({ kind:=2 },1) else if c = 36 then .ok ({ kind:=3 },1)
  else if c = 124 then .ok ({ kind:=6 },1) else if c = 41 then .ok ({ kind:=15 },1)
  else if c = 40 then opn (c :: r)
  else if c = 42 ∨ c = 43 ∨ c = 63 ∨ c = 123 then qnt (c :: r)
  else if c = 91 then match cls (c :: r) with
   | none=>.error 3
   | some (P,k)=>.ok ({ set:=P },k)
  else if c = 92 then escd r
  else if c = 93 ∨ c = 125 then .error 3
  else .ok ({ set:=one c },1)
abbrev Byt (l:List Int):Prop:=∀ c ∈ l,0 ≤ c ∧ c < 256
theorem Byt.drop {l:List Int} (h:Byt l) (k:Nat):Byt (l.drop k):=fun c hc=>h c (List.mem_of_mem_drop hc)
theorem B_byt (s:ByteArray):Byt (B s):=fun c hc=>B_rng hc
theorem span_rng {l:List Int} (hl:Byt l) {P:Nat → Bool} {k:Nat} (h:span l = some (P,k)):1 ≤ k ∧ k ≤ l.length:=by
 simp only [span] at h
 cases hi:item l with
 | none=>rw [hi] at h; cases h
 | some x =>
  obtain ⟨a,n⟩:=x
  have h1:=item_rng hl hi
  rw [hi] at h
  simp only [] at h
  by_cases h45:l[n]? = some 45
  ·rw [if_pos h45] at h
   have hn:n < l.length:=by
    rcases Nat.lt_or_ge n l.length with h | h
    ·exact h
    ·rw [List.getElem?_eq_none h] at h45; cases h45
   cases hj:item (l.drop (n + 1)) with
   | none=>rw [hj] at h; cases h
   | some y =>
    obtain ⟨b,m⟩:=y
    have h2:=item_rng (hl.drop _) hj
    rw [List.length_drop] at h2
    rw [hj] at h
    simp only [] at h
    match a,b,h with
    | .one x,.one y,h =>
     simp only [] at h
     by_cases hlt:y < x
     ·rw [if_pos hlt] at h; cases h
     ·rw [if_neg hlt] at h
      injection h with h
      injection h with h3 h4
      omega
    | .one x,.sp y,h=>cases h
    | .sp x,.one y,h=>cases h
    | .sp x,.sp y,h=>cases h
  ·rw [if_neg h45] at h
   injection h with h
   injection h with h3 h4
   omega
theorem items_rng {l:List Int} (hl:Byt l) {f:Bool} {k c c':Nat} {P Q:Nat → Bool} (h:items k l f P c = some (Q,c')):c + 1 ≤ c' ∧ c' ≤ c + l.length:=by
 induction k generalizing l f P c with
 | zero=>cases h
 | succ k ih =>
  rw [items] at h
  by_cases h1:f = false ∧ l.head? = some 93
  ·rw [if_pos h1] at h
   injection h with h
   injection h with h3 h4
   cases l with
   | nil=>cases h1.2
   | cons a l=>simp; omega
  ·rw [if_neg h1] at h
   cases hs:span l with
   | none=>rw [hs] at h; cases h
   | some x =>
    obtain ⟨R,m⟩:=x
    rw [hs] at h
    have:=ih (hl.drop m) h
    have h2:=span_rng hl hs
    rw [List.length_drop] at this
    omega
theorem cls_rng {l:List Int} (hl:Byt l) {k:Nat} {P:Nat → Bool} (h:cls l = some (P,k)):2 ≤ k ∧ k ≤ l.length:=by
 cases l with
 | nil=>cases h
 | cons c r =>
  have hr:Byt r:=fun c hc=>hl c (by simp [hc])
  rw [cls] at h
  by_cases h1:r.head? = some 94
  ·rw [if_pos h1] at h
   cases hi:items (r.length + 1) (r.drop 1) true (fun _=>false) 2 with
   | none=>rw [hi] at h; cases h
   | some x =>
    obtain ⟨Q,m⟩:=x
    have:=items_rng (hr.drop 1) hi
    rw [hi] at h
    injection h with h
    injection h with h3 h4
    cases r with
    | nil=>cases h1
    | cons d r=>simp at this ⊢; omega
  ·rw [if_neg h1] at h
   have:=items_rng hr h
   simp; omega
theorem drop_hd (s:ByteArray) (t:Nat):bt s (t:Int) = ((B s).drop t).head?:=by rw [bt_nat,List.head?_drop]
theorem drop_none {s:ByteArray} {t:Nat} (h:¬ t < s.size):((B s).drop t).head? = none:=by rw [List.head?_drop,List.getElem?_eq_none_iff,B_len]; omega
theorem sub_drop (s:ByteArray) {t:Nat} (h:t ≤ s.size):∃ u,sub s (t:Int) s.size = some u ∧ B u = (B s).drop t ∧ u.size ≤ s.size:=by
 obtain ⟨u,h1,h2⟩:=sub_tail h
 refine ⟨u,h1,h2,?_⟩
 have:=congrArg List.length h2
 rw [B_len,List.length_drop,B_len] at this
 omega
def clsR (not:Bool) (at_:Nat):Option ((Nat → Bool) × Nat) → class_Set × Int × Int
 | none=>(class_Set.zero,0,3)
 | some (P,c)=>(W fun i=>xor not (P i),((at_ + c:Nat):Int),0)
theorem class_loop {n:Nat} {s:ByteArray} (hn:360 ≤ n) (hz:s.size ≤ 100000) (z:class_Set) (nt:Bool) (t0:Nat):∀ (k k':Nat) (P:Nat → Bool) (c it:Nat),k ≤ k' → t0 + c ≤ s.size → it ≤ c → s.size - (t0 + c) < k →
  b_lex_Class_2 (m_class_Set_Or n) (m_class_Set_Not n) (m_strings_HasPrefix n) (m_lex_span n) n k' s z (W P) ((t0 + c:Nat):Int) nt (it:Int) = some (clsR nt t0 (items k ((B s).drop (t0 + c)) (decide (it = 0)) P c)):=by
 intro k
 induction k with
 | zero=>intro k' P c it _ _ _ h; omega
 | succ k ih =>
  intro k' P c it hk hc hit hm
  obtain ⟨k',rfl⟩:∃ m,k' = m + 1:=⟨k' - 1,by omega⟩
  rw [b_lex_Class_2.eq_2,items]
  obtain ⟨u,hu,hb,hus⟩:=sub_drop s (t:=t0 + c) hc
  have cont:((sub s ((t0 + c:Nat):Int) s.size).bind fun v169=>(m_lex_span n v169).bind fun v171=>bif decide (v171.2 = 0) then (some (class_Set.zero,0,3)) else ((m_class_Set_Or n (W P) v171.1).bind fun v204=>b_lex_Class_2 (m_class_Set_Or n) (m_class_Set_Not n) (m_strings_HasPrefix n) (m_lex_span n) n k' s z v204 (IntKind.i64.wrap (((t0 + c:Nat):Int) + v171.2)) nt (IntKind.i64.wrap ((it:Int) + 1))))
    = some (clsR nt t0 (match span ((B s).drop (t0 + c)) with
     | none=>none
     | some (Q,m)=>items k (((B s).drop (t0 + c)).drop m) false (fun i=>P i || Q i) (c + m))):=by
   rw [hu,Option.bind_some,span_eq (by omega) (by omega),Option.bind_some,hb]
   cases hs:span ((B s).drop (t0 + c)) with
   | none=>rfl
   | some x =>
    obtain ⟨Q,m⟩:=x
    have hr:=span_rng ((B_byt s).drop _) hs
    rw [List.length_drop,B_len] at hr
    have e0:¬ ((m:Int) = 0):=by omega
    show (bif decide ((m:Int) = 0) then _ else (m_class_Set_Or n (W P) (W Q)).bind fun v204=>b_lex_Class_2 (m_class_Set_Or n) (m_class_Set_Not n) (m_strings_HasPrefix n) (m_lex_span n) n k' s z v204 (IntKind.i64.wrap (((t0 + c:Nat):Int) + (m:Int))) nt (IntKind.i64.wrap ((it:Int) + 1))) = _
    simp only [e0,decide_false,cond_false]
    rw [or_W _ _ (by omega),Option.bind_some,wp1 (by omega),show IntKind.i64.wrap (((t0 + c:Nat):Int) + (m:Int)) = ((t0 + (c + m):Nat):Int) by rw [w64 (by omega) (by omega)]; omega]
    rw [ih k' _ (c + m) (it + 1) (by omega) (by omega) (by omega) (by omega)]
    rw [List.drop_drop,Nat.add_assoc]
    rfl
  by_cases hi:it = 0
  ·have h1:¬ ((0:Int) < (it:Int)):=by omega
   have h2:¬ (decide (it = 0) = false ∧ ((B s).drop (t0 + c)).head? = some 93):=by simp [hi]
   simp only [h1,decide_false,Bool.false_and,cond_false,Option.bind_some]
   rw [if_neg h2]
   exact cont
  ·have h1:((0:Int) < (it:Int)):=by omega
   by_cases hlt:t0 + c < s.size
   ·have h3:(((t0 + c:Nat):Int) < (s.size:Int)):=by omega
    simp only [h1,h3,decide_true,Bool.true_and,cond_true]
    rw [drop_hd]
    have hh:∃ d,((B s).drop (t0 + c)).head? = some d:=by
     rw [List.head?_drop]
     exact ⟨_,List.getElem?_eq_getElem (by rw [B_len]; exact hlt)⟩
    obtain ⟨d,hd⟩:=hh
    rw [hd,Option.bind_some,Option.bind_some]
    by_cases h93:d = 93
    ·subst h93
     have h2:(decide (it = 0) = false ∧ (some (93:Int)) = some 93):=by simp [hi]
     rw [if_pos h2]
     simp only [decide_true,cond_true]
     cases nt with
     | true =>
      simp only [cond_true]
      rw [not_W _ (by omega),Option.bind_some,b_lex_Class_3,wp1 (by omega)]
      simp only [clsR,Bool.true_xor]
      rfl
     | false =>
      simp only [cond_false]
      rw [b_lex_Class_3,wp1 (by omega)]
      simp only [clsR,Bool.false_xor]
      rfl
    ·have h2:¬ (decide (it = 0) = false ∧ some d = some 93):=fun h=>h93 (by simpa using h.2)
     rw [if_neg h2]
     simp only [h93,decide_false,cond_false]
     exact cont
   ·have h3:¬ (((t0 + c:Nat):Int) < (s.size:Int)):=by omega
    have h2:¬ (decide (it = 0) = false ∧ ((B s).drop (t0 + c)).head? = some 93):=by rw [drop_none hlt]; simp
    rw [if_neg h2]
    simp only [h3,decide_false,Bool.and_false,cond_false,Option.bind_some]
    exact cont
theorem class_eq {n:Nat} {s:ByteArray} {at_:Nat} (hn:370 + s.size ≤ n) (hz:s.size ≤ 100000) (h:((B s).drop at_).head? = some 91):m_lex_Class n s (at_:Int) = some (clsR false at_ (cls ((B s).drop at_))):=by
 obtain ⟨n,rfl⟩:∃ m,n = m + 1:=⟨n - 1,by omega⟩
 have hlt:at_ < s.size:=by
  rcases Nat.lt_or_ge at_ s.size with h' | h'
  ·exact h'
  ·rw [drop_none (by omega)] at h; cases h
 simp only [m_lex_Class,b_lex_Class]
 have h1:¬ ((at_:Int) < 0):=by omega
 have h2:¬ ((s.size:Int) ≤ (at_:Int)):=by omega
 simp only [h1,h2,decide_false,Bool.or_false,cond_false]
 rw [drop_hd,h,Option.bind_some,Option.bind_some]
 simp only [decide_true,Bool.not_true,cond_false]
 obtain ⟨u,hu,hb,hus⟩:=sub_drop s (t:=at_ + 1) (by omega)
 rw [wp1 (by omega),hu,Option.bind_some,prefix_eq _ _ (by omega),Option.bind_some,hb]
 obtain ⟨r,hr⟩:∃ r,(B s).drop at_ = 91 :: r:=by
  cases hq:(B s).drop at_ with
  | nil=>rw [hq] at h; cases h
  | cons a r=>rw [hq] at h; injection h with h; subst h; exact ⟨r,rfl⟩
 have hr1:(B s).drop (at_ + 1) = r:=by rw [← List.drop_drop,hr]; rfl
 have hrl:r.length = s.size - (at_ + 1):=by rw [← hr1,List.length_drop,B_len]
 rw [hr,hr1,cls]
 by_cases h94:r.head? = some 94
 ·obtain ⟨r',rfl⟩:∃ r',r = 94 :: r':=by
   cases r with
   | nil=>cases h94
   | cons a r=>injection h94 with h; subst h; exact ⟨r,rfl⟩
  rw [if_pos h94,show pre (B ⟨#[94]⟩) (94 :: r') = true from rfl,cond_true,b_lex_Class_1,wp1 (by omega)]
  simp only [List.length_cons] at hrl
  rw [W_none]
  have e:=class_loop (n:=n) (s:=s) (by omega) hz (W fun _=>false) true at_ (r'.length + 2) n (fun _=>false) 2 0 (by omega) (by omega) (by omega) (by omega)
  have hr2:(B s).drop (at_ + 2) = r':=by
   have:(B s).drop (at_ + 2) = ((B s).drop (at_ + 1)).drop 1:=by rw [List.drop_drop]
   rw [this,hr1]; rfl
  rw [hr2,show decide ((0:Nat) = 0) = true from rfl] at e
  rw [show at_ + 1 + 1 = at_ + 2 from rfl]
  refine Eq.trans e ?_
  simp only [List.length_cons,List.drop_succ_cons,List.drop_zero]
  cases items (r'.length + 2) r' true (fun _=>false) 2 with
  | none=>rfl
  | some x=>simp [clsR]
 ·have hp:pre (B ⟨#[94]⟩) r = false:=by
   cases r with
   | nil=>rfl
   | cons a r =>
    have:¬ a = 94:=fun h=>h94 (by rw [h]; rfl)
    show decide ([a] = [94]) = false
    simp [this]
  rw [if_neg h94,hp,cond_false,b_lex_Class_1,W_none]
  have e:=class_loop (n:=n) (s:=s) (by omega) hz (W fun _=>false) false at_ (r.length + 1) n (fun _=>false) 1 0 (by omega) (by omega) (by omega) (by omega)
  rw [hr1] at e
  exact e
end Go.Proofs.YtcjnmmeibppblaaDoor
