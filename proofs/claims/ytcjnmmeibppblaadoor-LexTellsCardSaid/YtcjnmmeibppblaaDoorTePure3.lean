import Derived.Test.YtcjnmmeibppblaaDoorTePure1
set_option maxRecDepth 100000
set_option linter.unusedVariables false
set_option linter.unusedSimpArgs false
namespace Go.Proofs.YtcjnmmeibppblaaDoor
open Go Go.AM
def dg (c:Int):Int:=if 48 ≤ c ∧ c ≤ 57 then c - 48 else if 97 ≤ c ∧ c ≤ 102 then c - 87 else if 65 ≤ c ∧ c ≤ 70 then c - 55 else -1
theorem dg_rng (c:Int):-1 ≤ dg c ∧ dg c ≤ 15:=by unfold dg; split <;> (try split) <;> (try split) <;> omega
def word:Nat → Bool:=fun i=>rng 48 57 i || rng 97 122 i || rng 65 90 i || one 95 i
def spc:Nat → Bool:=fun i=>rng 9 13 i || one 32 i
inductive IS where
 | one (c:Int)
 | sp (k:Nat)
def IS.p:IS → Nat → Bool
 | .one c=>Go.Proofs.YtcjnmmeibppblaaDoor.one c
 | .sp 0=>rng 48 57
 | .sp 1=>fun i=>!rng 48 57 i
 | .sp 2=>word
 | .sp 3=>fun i=>!word i
 | .sp 4=>spc
 | .sp _=>fun i=>!spc i
def esc:List Int → Option (IS × Nat)
 | []=>none
 | c :: r =>
  if c = 100 then some (.sp 0,1) else if c = 68 then some (.sp 1,1) else if c = 119 then some (.sp 2,1)
  else if c = 87 then some (.sp 3,1) else if c = 115 then some (.sp 4,1) else if c = 83 then some (.sp 5,1)
  else if c = 120 then
   match r with
   | a :: b :: _=>if 0 ≤ dg a ∧ 0 ≤ dg b then some (.one (16 * dg a + dg b),3) else none
   | _=>none
  else if c = 110 then some (.one 10,1) else if c = 116 then some (.one 9,1) else if c = 114 then some (.one 13,1)
  else if c = 102 then some (.one 12,1) else if c = 118 then some (.one 11,1)
  else if c ≠ 95 ∧ word c.toNat = true then none else some (.one c,1)
def item:List Int → Option (IS × Nat)
 | []=>none
 | c :: r=>if c = 91 ∨ c = 93 ∨ c = 45 then none else if c = 92 then (esc r).map fun x=>(x.1,x.2 + 1) else some (.one c,1)
def span (l:List Int):Option ((Nat → Bool) × Nat) :=
 match item l with
 | none=>none
 | some (a,n)=>if l[n]? = some 45 then
   match item (l.drop (n + 1)) with
   | none=>none
   | some (b,m)=>match a,b with
    | .one x,.one y=>if y < x then none else some (rng x y,n + 1 + m)
    | _,_=>none
  else some (a.p,n)
def pre (h l:List Int):Bool:=decide (l.take h.length = h)
theorem le255 {c:Int} (h0:0 ≤ c) (h1:c < 256):c.toNat ∈ List.range 256:=List.mem_range.2 (by omega)
theorem all256 {f:Int → Bool} (h:((List.range 256).all fun c=>f (c:Int)) = true) {c:Int} (h0:0 ≤ c) (h1:c < 256):f c = true:=by
 have:=List.all_eq_true.1 h _ (le255 h0 h1)
 rwa [show ((c.toNat:Nat):Int) = c by omega] at this
theorem dig16 {n:Nat} {c:Int} (h:2 ≤ n) (h0:0 ≤ c) (h1:c < 256):m_lex_digit n c 16 = some (dg c):=by
 obtain ⟨n,rfl⟩:∃ m,n = m + 2:=⟨n - 2,by omega⟩
 have e:((List.range 256).all fun c=>m_lex_digit (n + 2) (c:Int) 16 == some (dg (c:Int))) = true:=by kernel_rfl
 exact beq_iff_eq.1 (all256 (f:=fun c=>m_lex_digit (n + 2) c 16 == some (dg c)) e h0 h1)
theorem dig10 {n:Nat} {c:Int} (h:2 ≤ n) (h0:0 ≤ c) (h1:c < 256):m_lex_digit n c 10 = some (if 48 ≤ c ∧ c ≤ 57 then c - 48 else -1):=by
 obtain ⟨n,rfl⟩:∃ m,n = m + 2:=⟨n - 2,by omega⟩
 have e:((List.range 256).all fun c=>m_lex_digit (n + 2) (c:Int) 10 == some (if 48 ≤ (c:Int) ∧ (c:Int) ≤ 57 then (c:Int) - 48 else -1)) = true:=by kernel_rfl
 exact beq_iff_eq.1 (all256 (f:=fun c=>m_lex_digit (n + 2) c 10 == some (if 48 ≤ c ∧ c ≤ 57 then c - 48 else -1)) e h0 h1)
theorem ix5 {n:Nat} {c:Int} (h:3 ≤ n) (h0:0 ≤ c) (h1:c < 256):m_strings_IndexByte n ⟨#[110,116,114,102,118]⟩ c = some (if c = 110 then 0 else if c = 116 then 1 else if c = 114 then 2 else if c = 102 then 3 else if c = 118 then 4 else -1):=by
 obtain ⟨n,rfl⟩:∃ m,n = m + 3:=⟨n - 3,by omega⟩
 have e:((List.range 256).all fun c=>m_strings_IndexByte (n + 3) ⟨#[110,116,114,102,118]⟩ (c:Int) == some (if (c:Int) = 110 then 0 else if (c:Int) = 116 then 1 else if (c:Int) = 114 then 2 else if (c:Int) = 102 then 3 else if (c:Int) = 118 then 4 else -1)) = true:=by kernel_rfl
 exact beq_iff_eq.1 (all256 (f:=fun c=>m_strings_IndexByte (n + 3) ⟨#[110,116,114,102,118]⟩ c == some (if c = 110 then 0 else if c = 116 then 1 else if c = 114 then 2 else if c = 102 then 3 else if c = 118 then 4 else -1)) e h0 h1)
theorem ix3 {n:Nat} {c:Int} (h:3 ≤ n) (h0:0 ≤ c) (h1:c < 256):(m_strings_IndexByte n ⟨#[91,93,45]⟩ c).bind (fun v=>some (decide (0 ≤ v))) = some (decide (c = 91 ∨ c = 93 ∨ c = 45)):=by
 obtain ⟨n,rfl⟩:∃ m,n = m + 3:=⟨n - 3,by omega⟩
 have e:((List.range 256).all fun c=>(m_strings_IndexByte (n + 3) ⟨#[91,93,45]⟩ (c:Int)).bind (fun v=>some (decide (0 ≤ v))) == some (decide ((c:Int) = 91 ∨ (c:Int) = 93 ∨ (c:Int) = 45))) = true:=by kernel_rfl
 exact beq_iff_eq.1 (all256 (f:=fun c=>(m_strings_IndexByte (n + 3) ⟨#[91,93,45]⟩ c).bind (fun v=>some (decide (0 ≤ v))) == some (decide (c = 91 ∨ c = 93 ∨ c = 45))) e h0 h1)
theorem digits_W {n:Nat} (h:300 ≤ n):m_lex_digits n = some (W (rng 48 57)):=by
 obtain ⟨n,rfl⟩:∃ m,n = m + 1:=⟨n - 1,by omega⟩
 show b_lex_digits (m_class_Range n) n = _
 unfold b_lex_digits
 rw [range_W (by omega) (by omega) (by omega) (by omega) (by omega),Option.bind_some]
theorem words_W {n:Nat} (h:310 ≤ n):m_lex_words n = some (W word):=by
 obtain ⟨n,rfl⟩:∃ m,n = m + 1:=⟨n - 1,by omega⟩
 simp only [m_lex_words,b_lex_words]
 rw [digits_W (by omega),Option.bind_some,range_W (by omega) (by omega) (by omega) (by omega) (by omega),Option.bind_some,or_W _ _ (by omega),Option.bind_some,
  range_W (by omega) (by omega) (by omega) (by omega) (by omega),Option.bind_some,or_W _ _ (by omega),Option.bind_some,one_W (by omega) (by omega) (by omega),Option.bind_some,or_W _ _ (by omega),Option.bind_some]
 rfl
theorem spaces_W {n:Nat} (h:310 ≤ n):m_lex_spaces n = some (W spc):=by
 obtain ⟨n,rfl⟩:∃ m,n = m + 1:=⟨n - 1,by omega⟩
 simp only [m_lex_spaces,b_lex_spaces]
 rw [range_W (by omega) (by omega) (by omega) (by omega) (by omega),Option.bind_some,one_W (by omega) (by omega) (by omega),Option.bind_some,or_W _ _ (by omega),Option.bind_some]
 rfl
theorem letter_eq {n:Nat} {c:Int} (h:320 ≤ n) (h0:0 ≤ c) (h1:c < 256):m_lex_letter n c = some (decide (c ≠ 95 ∧ word c.toNat = true)):=by
 obtain ⟨n,rfl⟩:∃ m,n = m + 1:=⟨n - 1,by omega⟩
 simp only [m_lex_letter,b_lex_letter]
 rw [words_W (by omega),Option.bind_some,has_W _ (by omega) h0 h1]
 by_cases e:c = 95
 ·simp [e]
 ·simp [e]
theorem prefix_eq {n:Nat} (s h:ByteArray) (hn:2 ≤ n):m_strings_HasPrefix n s h = some (pre (B h) (B s)):=by
 obtain ⟨n,rfl⟩:∃ m,n = m + 2:=⟨n - 2,by omega⟩
 simp only [m_strings_HasPrefix,b_strings_HasPrefix,m_stringslite_HasPrefix,b_stringslite_HasPrefix]
 by_cases e:h.size ≤ s.size
 ·obtain ⟨u,h1,h2⟩:=sub_eq (s:=s) (a:=0) (b:=h.size) (by omega) e
  rw [show (0:Int) = ((0:Nat):Int) from rfl,h1]
  have:(decide ((h.size:Int) ≤ s.size)) = true:=by simp; omega
  rw [this,cond_true,Option.bind_some,Option.bind_some,Option.bind_some]
  rw [pre,B_len,← show B u = (B s).take h.size by rw [h2]; simp]
  simp only [B_iff]
 ·have:(decide ((h.size:Int) ≤ s.size)) = false:=by simp; omega
  rw [this,cond_false,Option.bind_some,Option.bind_some,pre]
  congr 1
  symm
  rw [decide_eq_false_iff_not]
  intro hc
  have:=congrArg List.length hc
  rw [List.length_take,B_len,B_len] at this
  omega
def escR:Option (IS × Nat) → class_Set × Int
 | none=>(class_Set.zero,0)
 | some (a,k)=>(W a.p,(k:Int))
theorem hd {s:ByteArray} {c:Int} {r:List Int} (h:B s = c :: r):bt s 0 = some c ∧ decide (s = (⟨#[]⟩:ByteArray)) = false ∧ 0 ≤ c ∧ c < 256:=by
 refine ⟨?_,?_,B_rng (s:=s) (by rw [h]; simp)⟩
 ·rw [show (0:Int) = ((0:Nat):Int) from rfl,bt_nat,h]; rfl
 ·rw [decide_eq_false_iff_not,B_nil,h]; simp
theorem esc_eq {n:Nat} {s:ByteArray} (hn:330 ≤ n):m_lex_escape n s = some (escR (esc (B s))):=by
 obtain ⟨n,rfl⟩:∃ m,n = m + 1:=⟨n - 1,by omega⟩
 simp only [m_lex_escape,b_lex_escape]
 cases hs:B s with
 | nil=>rw [B_nil.2 hs]; rfl
 | cons c r =>
  obtain ⟨e0,e1,c0,c1⟩:=hd hs
  rw [e0,e1,cond_false,Option.bind_some,digits_W (by omega),Option.bind_some,Option.bind_some,words_W (by omega),Option.bind_some,Option.bind_some,spaces_W (by omega),Option.bind_some,Option.bind_some,
   not_W _ (by omega),Option.bind_some,not_W _ (by omega),Option.bind_some,not_W _ (by omega),Option.bind_some]
  by_cases h1:c = 100
  ·subst h1; rfl
  by_cases h2:c = 68
  ·subst h2; rfl
  by_cases h3:c = 119
  ·subst h3; rfl
  by_cases h4:c = 87
  ·subst h4; rfl
  by_cases h5:c = 115
  ·subst h5; rfl
  by_cases h6:c = 83
  ·subst h6; rfl
  simp only [esc,h1,h2,h3,h4,h5,h6,decide_false,cond_false,if_false]
  have hl:(s.size:Int) = (r.length:Int) + 1:=by rw [← B_len,hs]; simp
  by_cases h7:c = 120
  ·simp only [h7,decide_true,cond_true,if_true,hl]
   match r,hs,hl with
   | [],hs,hl=>rfl
   | [a],hs,hl=>rfl
   | a :: b :: r,hs,hl =>
    have b1:bt s 1 = some a:=by rw [show (1:Int) = ((1:Nat):Int) from rfl,bt_nat,hs]; rfl
    have b2:bt s 2 = some b:=by rw [show (2:Int) = ((2:Nat):Int) from rfl,bt_nat,hs]; rfl
    have ra:=B_rng (s:=s) (c:=a) (by rw [hs]; simp)
    have rb:=B_rng (s:=s) (c:=b) (by rw [hs]; simp)
    have hlt:decide ((((a :: b :: r).length:Nat):Int) + 1 < 3) = false:=by simp; omega
    rw [hlt,cond_false,b1,b2]
    simp only [Option.bind_some]
    rw [dig16 (by omega) ra.1 ra.2,dig16 (by omega) rb.1 rb.2]
    simp only [Option.bind_some]
    have da:=dg_rng a
    have db:=dg_rng b
    by_cases ha:0 ≤ dg a
    ·have ha':¬ dg a < 0:=by omega
     by_cases hb:0 ≤ dg b
     ·have hb':¬ dg b < 0:=by omega
      simp only [ha,hb,ha',hb',decide_false,cond_false,Option.bind_some,and_self,if_true]
      rw [w64 (n:=dg a * 16) (by omega) (by omega),w64 (n:=dg a * 16 + dg b) (by omega) (by omega),wrap_u8 (by omega) (by omega),one_W (by omega) (by omega) (by omega),Option.bind_some]
      rw [show dg a * 16 + dg b = 16 * dg a + dg b by omega]
      rfl
     ·have hb':dg b < 0:=by omega
      simp only [ha,hb,ha',hb',decide_false,decide_true,cond_false,cond_true,Option.bind_some,and_false,if_false]
      rfl
    ·have ha':dg a < 0:=by omega
     simp only [ha,ha',decide_true,cond_true,Option.bind_some,false_and,if_false]
     rfl
  ·simp only [h7,decide_false,cond_false,if_false]
   rw [ix5 (by omega) c0 c1,Option.bind_some]
   by_cases h8:c = 110
   ·subst h8; simp only [if_true]; rw [show bt ⟨#[10,9,13,12,11]⟩ 0 = some 10 from rfl,Option.bind_some,one_W (by omega) (by omega) (by omega)]; rfl
   by_cases h9:c = 116
   ·subst h9; simp only [h8,if_false,if_true]; rw [show bt ⟨#[10,9,13,12,11]⟩ 1 = some 9 from rfl,Option.bind_some,one_W (by omega) (by omega) (by omega)]; rfl
   by_cases h10:c = 114
   ·subst h10; simp only [h8,h9,if_false,if_true]; rw [show bt ⟨#[10,9,13,12,11]⟩ 2 = some 13 from rfl,Option.bind_some,one_W (by omega) (by omega) (by omega)]; rfl
   by_cases h11:c = 102
   ·subst h11; simp only [h8,h9,h10,if_false,if_true]; rw [show bt ⟨#[10,9,13,12,11]⟩ 3 = some 12 from rfl,Option.bind_some,one_W (by omega) (by omega) (by omega)]; rfl
   by_cases h12:c = 118
   ·subst h12; simp only [h8,h9,h10,h11,if_false,if_true]; rw [show bt ⟨#[10,9,13,12,11]⟩ 4 = some 11 from rfl,Option.bind_some,one_W (by omega) (by omega) (by omega)]; rfl
   simp only [h8,h9,h10,h11,h12,if_false,show decide ((0:Int) ≤ -1) = false by decide,cond_false]
   rw [letter_eq (by omega) c0 c1,Option.bind_some,one_W (by omega) c0 c1,Option.bind_some]
   by_cases h13:c ≠ 95 ∧ word c.toNat = true
   ·simp only [h13,and_self,decide_true,cond_true,if_true,not_false_eq_true,ne_eq]; rfl
   ·simp only [h13,decide_false,cond_false,if_false]; rfl
theorem esc_rng {l:List Int} (hl:∀ c ∈ l,0 ≤ c ∧ c < 256) {a:IS} {k:Nat} (h:esc l = some (a,k)):1 ≤ k ∧ k ≤ l.length ∧ ∀ c,a = .one c → 0 ≤ c ∧ c < 256:=by
 cases l with
 | nil=>cases h
 | cons c r =>
  have hc:=hl c (by simp)
  simp only [esc] at h
  have fin:∀ {b:IS} {j:Nat},some (b,j) = some (a,k) → 1 ≤ j → j ≤ (c :: r).length → (∀ c,b = .one c → 0 ≤ c ∧ c < 256) → 1 ≤ k ∧ k ≤ (c :: r).length ∧ ∀ c,a = .one c → 0 ≤ c ∧ c < 256:=fun e h1 h2 h3=>by
   injection e with e
   injection e with e1 e2
   subst e1 e2
   exact ⟨h1,h2,h3⟩
  have ow:∀ {b:Int},0 ≤ b → b < 256 → ∀ d,IS.one b = .one d → 0 ≤ d ∧ d < 256:=fun h1 h2 d e=>by injection e with e; omega
  by_cases h0:c = 100
  ·rw [if_pos h0] at h; exact fin h (by omega) (by simp) (fun d e=>nomatch e)
  rw [if_neg h0] at h
  by_cases h1:c = 68
  ·rw [if_pos h1] at h; exact fin h (by omega) (by simp) (fun d e=>nomatch e)
  rw [if_neg h1] at h
  by_cases h2:c = 119
  ·rw [if_pos h2] at h; exact fin h (by omega) (by simp) (fun d e=>nomatch e)
  rw [if_neg h2] at h
  by_cases h3:c = 87
  ·rw [if_pos h3] at h; exact fin h (by omega) (by simp) (fun d e=>nomatch e)
  rw [if_neg h3] at h
  by_cases h4:c = 115
  ·rw [if_pos h4] at h; exact fin h (by omega) (by simp) (fun d e=>nomatch e)
  rw [if_neg h4] at h
  by_cases h5:c = 83
  ·rw [if_pos h5] at h; exact fin h (by omega) (by simp) (fun d e=>nomatch e)
  rw [if_neg h5] at h
  by_cases hx:c = 120
  ·rw [if_pos hx] at h
   match r,hl,h with
   | [],hl,h=>cases h
   | [a'],hl,h=>cases h
   | a' :: b' :: r,hl,h =>
    simp only [] at h
    have d1:=dg_rng a'
    have d2:=dg_rng b'
    by_cases hd:0 ≤ dg a' ∧ 0 ≤ dg b'
    ·rw [if_pos hd] at h; exact fin h (by omega) (by simp) (ow (by omega) (by omega))
    ·rw [if_neg hd] at h; cases h
  rw [if_neg hx] at h
  by_cases j0:c = 110
  ·rw [if_pos j0] at h; exact fin h (by omega) (by simp) (ow (by omega) (by omega))
  rw [if_neg j0] at h
  by_cases j1:c = 116
  ·rw [if_pos j1] at h; exact fin h (by omega) (by simp) (ow (by omega) (by omega))
  rw [if_neg j1] at h
  by_cases j2:c = 114
  ·rw [if_pos j2] at h; exact fin h (by omega) (by simp) (ow (by omega) (by omega))
  rw [if_neg j2] at h
  by_cases j3:c = 102
  ·rw [if_pos j3] at h; exact fin h (by omega) (by simp) (ow (by omega) (by omega))
  rw [if_neg j3] at h
  by_cases j4:c = 118
  ·rw [if_pos j4] at h; exact fin h (by omega) (by simp) (ow (by omega) (by omega))
  rw [if_neg j4] at h
  by_cases hw:c ≠ 95 ∧ word c.toNat = true
  ·rw [if_pos hw] at h; cases h
  rw [if_neg hw] at h
  exact fin h (by omega) (by simp) (ow hc.1 hc.2)
theorem item_rng {l:List Int} (hl:∀ c ∈ l,0 ≤ c ∧ c < 256) {a:IS} {k:Nat} (h:item l = some (a,k)):1 ≤ k ∧ k ≤ l.length ∧ ∀ c,a = .one c → 0 ≤ c ∧ c < 256:=by
 cases l with
 | nil=>cases h
 | cons c r =>
  have hc:=hl c (by simp)
  simp only [item] at h
  split at h
  ·cases h
  split at h
  ·cases he:esc r with
   | none=>rw [he] at h; cases h
   | some x =>
    obtain ⟨a',k'⟩:=x
    rw [he] at h
    simp only [Option.map_some,Option.some.injEq,Prod.mk.injEq] at h
    obtain ⟨rfl,rfl⟩:=h
    have:=esc_rng (fun c hc=>hl c (by simp [hc])) he
    exact ⟨by omega,by simp; omega,this.2.2⟩
  ·simp only [Option.some.injEq,Prod.mk.injEq] at h
   obtain ⟨rfl,rfl⟩:=h
   refine ⟨by omega,by simp,fun d e=>?_⟩
   injection e with e
   omega
theorem item_eq {n:Nat} {s:ByteArray} (hn:340 ≤ n) (hz:s.size ≤ 100000):m_lex_item n s = some (escR (item (B s))):=by
 obtain ⟨n,rfl⟩:∃ m,n = m + 1:=⟨n - 1,by omega⟩
 simp only [m_lex_item,b_lex_item]
 cases hs:B s with
 | nil=>rw [B_nil.2 hs]; rfl
 | cons c r =>
  obtain ⟨e0,e1,c0,c1⟩:=hd hs
  rw [e0,e1,cond_false,Option.bind_some,ix3 (by omega) c0 c1,Option.bind_some,Option.bind_some]
  by_cases h1:c = 91 ∨ c = 93 ∨ c = 45
  ·simp only [item,h1,decide_true,cond_true,if_true]; rfl
  simp only [item,h1,decide_false,cond_false,if_false]
  have hl:s.size = r.length + 1:=by rw [← B_len,hs]; simp
  by_cases h2:c = 92
  ·simp only [h2,decide_true,cond_true,if_true]
   obtain ⟨u,hu,hb⟩:=sub_tail (s:=s) (a:=1) (by omega)
   rw [show (1:Int) = ((1:Nat):Int) from rfl,hu,Option.bind_some,esc_eq (by omega),Option.bind_some,hb,hs]
   rw [show List.drop 1 (c :: r) = r from rfl]
   have hr:∀ c ∈ r,0 ≤ c ∧ c < 256:=fun c hc=>B_rng (s:=s) (by rw [hs]; simp [hc])
   cases he:esc r with
   | none=>rfl
   | some x =>
    obtain ⟨a,k⟩:=x
    have hk:=esc_rng hr he
    have:¬ ((k:Int) = 0):=by omega
    show (bif decide ((k:Int) = 0) then _ else some (W a.p,IntKind.i64.wrap ((k:Int) + 1))) = _
    simp only [this,decide_false,cond_false,Option.map_some]
    rw [wp1 (by omega)]
    rfl
  ·simp only [h2,decide_false,cond_false,if_false]
   rw [one_W (by omega) c0 c1]
   rfl
theorem len1 {n:Nat} {c:Int} (h:9 ≤ n) (h0:0 ≤ c) (h1:c < 256):m_class_Set_Len n (W (one c)) = some 1:=by
 obtain ⟨n,rfl⟩:∃ m,n = m + 9:=⟨n - 9,by omega⟩
 have e:((List.range 256).all fun c=>m_class_Set_Len (n + 9) (W (one (c:Int))) == some 1) = true:=by kernel_rfl
 exact beq_iff_eq.1 (all256 (f:=fun c=>m_class_Set_Len (n + 9) (W (one c)) == some 1) e h0 h1)
theorem min1 {n:Nat} {c:Int} (h:9 ≤ n) (h0:0 ≤ c) (h1:c < 256):m_class_Set_Min n (W (one c)) = some (c,true):=by
 obtain ⟨n,rfl⟩:∃ m,n = m + 9:=⟨n - 9,by omega⟩
 have e:((List.range 256).all fun c=>m_class_Set_Min (n + 9) (W (one (c:Int))) == some ((c:Int),true)) = true:=by kernel_rfl
 exact beq_iff_eq.1 (all256 (f:=fun c=>m_class_Set_Min (n + 9) (W (one c)) == some (c,true)) e h0 h1)
theorem lenS {n:Nat} (k:Nat) (h:9 ≤ n):∃ v,m_class_Set_Len n (W (IS.sp k).p) = some v ∧ v ≠ 1:=by
 obtain ⟨n,rfl⟩:∃ m,n = m + 9:=⟨n - 9,by omega⟩
 match k with
 | 0=>exact ⟨10,by kernel_rfl,by decide⟩
 | 1=>exact ⟨246,by kernel_rfl,by decide⟩
 | 2=>exact ⟨63,by kernel_rfl,by decide⟩
 | 3=>exact ⟨193,by kernel_rfl,by decide⟩
 | 4=>exact ⟨6,by kernel_rfl,by decide⟩
 | k + 5=>exact ⟨250,by kernel_rfl,by decide⟩
theorem minS {n:Nat} (k:Nat) (h:9 ≤ n):∃ v,m_class_Set_Min n (W (IS.sp k).p) = some v:=by
 obtain ⟨n,rfl⟩:∃ m,n = m + 9:=⟨n - 9,by omega⟩
 match k with
 | 0=>exact ⟨(48,true),by kernel_rfl⟩
 | 1=>exact ⟨(0,true),by kernel_rfl⟩
 | 2=>exact ⟨(48,true),by kernel_rfl⟩
 | 3=>exact ⟨(0,true),by kernel_rfl⟩
 | 4=>exact ⟨(9,true),by kernel_rfl⟩
 | k + 5=>exact ⟨(0,true),by kernel_rfl⟩
theorem min0 {n:Nat} (h:9 ≤ n):m_class_Set_Min n class_Set.zero = some (0,false):=by
 obtain ⟨n,rfl⟩:∃ m,n = m + 9:=⟨n - 9,by omega⟩
 kernel_rfl
theorem ofIS {n:Nat} (a:IS) (hn:9 ≤ n) (h:∀ c,a = .one c → 0 ≤ c ∧ c < 256):∃ m v,m_class_Set_Min n (W a.p) = some m ∧ m_class_Set_Len n (W a.p) = some v ∧ ((∃ c,a = .one c ∧ m.1 = c ∧ v = 1) ∨ ((∃ k,a = .sp k) ∧ v ≠ 1)):=by
 cases a with
 | one c=>exact ⟨_,_,min1 hn (h c rfl).1 (h c rfl).2,len1 hn (h c rfl).1 (h c rfl).2,.inl ⟨c,rfl,rfl,rfl⟩⟩
 | sp k =>
  obtain ⟨v,h1,h2⟩:=lenS (n:=n) k hn
  obtain ⟨m,h3⟩:=minS (n:=n) k hn
  exact ⟨m,v,h3,h1,.inr ⟨⟨k,rfl⟩,h2⟩⟩
def spanR:Option ((Nat → Bool) × Nat) → class_Set × Int
 | none=>(class_Set.zero,0)
 | some (P,k)=>(W P,(k:Int))
theorem span_eq {n:Nat} {s:ByteArray} (hn:350 ≤ n) (hz:s.size ≤ 100000):m_lex_span n s = some (spanR (span (B s))):=by
 obtain ⟨n,rfl⟩:∃ m,n = m + 1:=⟨n - 1,by omega⟩
 simp only [m_lex_span,b_lex_span]
 have hr:∀ c ∈ B s,0 ≤ c ∧ c < 256:=fun c hc=>B_rng hc
 rw [item_eq (by omega) hz,Option.bind_some]
 cases ha:item (B s) with
 | none=>simp only [span,ha,escR,decide_true,Bool.true_or,cond_true,Option.bind_some]; rfl
 | some x =>
  obtain ⟨a,k⟩:=x
  have hk:=item_rng hr ha
  rw [B_len] at hk
  simp only [span,ha,escR]
  have e0:¬ ((k:Int) = 0):=by omega
  simp only [e0,decide_false,Bool.false_or]
  by_cases hks:k < s.size
  ·have e1:¬ ((s.size:Int) ≤ (k:Int)):=by omega
   have hg:(B s)[k]? = some ((B s)[k]'(by rw [B_len]; exact hks)):=List.getElem?_eq_getElem _
   simp only [e1,decide_false,cond_false,bt_nat,hg,Option.bind_some]
   by_cases h45:(B s)[k]'(by rw [B_len]; exact hks) = 45
   ·simp only [h45,decide_true,Bool.not_true,cond_false,if_true]
    obtain ⟨u,hu,hb⟩:=sub_tail (s:=s) (a:=k + 1) (by omega)
    have huz:u.size ≤ 100000:=by
     have:=congrArg List.length hb
     rw [B_len,List.length_drop,B_len] at this
     omega
    rw [wp1 (by omega),hu,Option.bind_some,item_eq (by omega) huz,Option.bind_some,hb]
    obtain ⟨m,v,hm,hv,hab⟩:=ofIS (n:=n) a (by omega) hk.2.2
    rw [hm,Option.bind_some]
    cases hi:item ((B s).drop (k + 1)) with
    | none =>
     simp only [escR]
     rw [min0 (by omega),Option.bind_some]
     simp only [decide_true,cond_true,Option.bind_some,Bool.true_or]
     rfl
    | some y =>
     obtain ⟨b,j⟩:=y
     have hj:=item_rng (fun c hc=>hr c (List.mem_of_mem_drop hc)) hi
     rw [List.length_drop,B_len] at hj
     obtain ⟨m',v',hm',hv',hab'⟩:=ofIS (n:=n) b (by omega) hj.2.2
     simp only [escR]
     rw [hm',Option.bind_some,hv,hv']
     have e2:¬ ((j:Int) = 0):=by omega
     simp only [e2,decide_false,cond_false,Option.bind_some]
     rcases hab with ⟨c,rfl,hc,rfl⟩ | ⟨⟨q,rfl⟩,hv1⟩
     ·simp only [decide_true,Bool.not_true,cond_false,Option.bind_some]
      rcases hab' with ⟨c',rfl,hc',rfl⟩ | ⟨⟨q',rfl⟩,hv1'⟩
      ·simp only [decide_true,Bool.not_true,Bool.false_or,hc,hc']
       have r1:=hk.2.2 c rfl
       have r2:=hj.2.2 c' rfl
       by_cases hlt:c' < c
       ·simp only [hlt,decide_true,cond_true,if_true]; rfl
       ·simp only [hlt,decide_false,cond_false,if_false]
        rw [range_W (by omega) r1.1 r1.2 r2.1 r2.2,Option.bind_some,w64 (by omega) (by omega)]
        simp only [spanR]
        congr 2
      ·simp only [hv1',decide_false,Bool.not_false,Bool.true_or,cond_true]; rfl
     ·simp only [hv1,decide_false,Bool.not_false,cond_true,Option.bind_some,Bool.true_or]; rfl
   ·have e3:¬ (some ((B s)[k]'(by rw [B_len]; exact hks)) = some (45:Int)):=by simpa using h45
    simp only [h45,e3,decide_false,Bool.not_false,cond_true,if_false]; rfl
  ·have e1:((s.size:Int) ≤ (k:Int)):=by omega
   have hg:(B s)[k]? = none:=by rw [List.getElem?_eq_none_iff,B_len]; omega
   simp only [e1,decide_true,cond_true,Option.bind_some,hg]
   rfl
end Go.Proofs.YtcjnmmeibppblaaDoor
