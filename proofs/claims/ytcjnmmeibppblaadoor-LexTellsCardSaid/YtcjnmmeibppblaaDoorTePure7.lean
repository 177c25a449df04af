import Derived.Test.YtcjnmmeibppblaaDoorTePure2
import Derived.Test.YtcjnmmeibppblaaDoorTePure4
set_option maxRecDepth 100000
set_option linter.unusedVariables false
set_option linter.unusedSimpArgs false
namespace Go.Proofs.YtcjnmmeibppblaaDoor
open Go Go.AM
theorem starts_eq {n:Nat} {s h:ByteArray} {a:Nat} (hn:1 ≤ n) (ha:a ≤ 200000) (hz:s.size ≤ 100000) (hh:1 ≤ h.size) (hh':h.size ≤ 1000) :
  m_ref06_starts n s (a:Int) h = some (pre (B h) ((B s).drop a)):=by
 obtain ⟨n,rfl⟩:∃ m,n = m + 1:=⟨n - 1,by omega⟩
 show b_ref06_starts n s (a:Int) h = _
 unfold b_ref06_starts
 have h0:(0:Int) ≤ (a:Int):=by omega
 rw [w64 (n:=(s.size:Int) - (a:Int)) (by omega) (by omega),w64 (n:=(a:Int) + (h.size:Int)) (by omega) (by omega)]
 by_cases e:a + h.size ≤ s.size
 ·have h1:(a:Int) ≤ (s.size:Int):=by omega
  have h2:(h.size:Int) ≤ (s.size:Int) - (a:Int):=by omega
  simp only [h0,h1,h2,decide_true,Bool.and_self,cond_true]
  obtain ⟨u,hu,hb⟩:=sub_eq (s:=s) (a:=a) (b:=a + h.size) (by omega) e
  rw [show (a:Int) + (h.size:Int) = ((a + h.size:Nat):Int) by omega,hu,Option.bind_some,Option.bind_some,pre,B_len]
  simp only [B_iff,hb,Nat.add_sub_cancel_left]
 ·have h2:(decide ((0:Int) ≤ (a:Int)) && decide ((a:Int) ≤ (s.size:Int)) && decide ((h.size:Int) ≤ (s.size:Int) - (a:Int))) = false:=by
   have:¬ ((h.size:Int) ≤ (s.size:Int) - (a:Int)):=by omega
   simp [this]
  rw [h2,cond_false,Option.bind_some,pre]
  congr 1
  symm
  rw [decide_eq_false_iff_not]
  intro hc
  have:=congrArg List.length hc
  rw [List.length_take,B_len,List.length_drop,B_len] at this
  omega
theorem pre1 {c:Int} {l:List Int}:pre [c] l = decide (l.head? = some c):=by
 cases l with
 | nil=>simp [pre]
 | cons a l=>simp [pre]
theorem rone_eq {n:Nat} {c:Int} (hn:261 ≤ n) (h0:0 ≤ c) (h1:c < 256):m_ref06_one n c = some (RS (one c)):=by
 obtain ⟨n,rfl⟩:∃ m,n = m + 1:=⟨n - 1,by omega⟩
 simp only [m_ref06_one,b_ref06_one]
 rw [rrange (by omega) h0 h1 h0 h1,Option.bind_some]
 refine congrArg some (RS_congr fun i _=>?_)
 simp only [rng,one]
 by_cases e:i = c.toNat
 ·have h2:c ≤ (i:Int):=by omega
  have h3:(i:Int) ≤ c:=by omega
  simp [e,h2,h3]
  omega
 ·have h2:(i == c.toNat) = false:=by rw [beq_eq_false_iff_ne]; exact e
  rw [h2]
  by_cases h3:c ≤ (i:Int)
  ·have h4:¬ ((i:Int) ≤ c):=by omega
   simp [h4]
  ·simp [h3]
theorem rword_eq {n:Nat} (hn:270 ≤ n):m_ref06_word n = some (RS word):=by
 obtain ⟨n,rfl⟩:∃ m,n = m + 1:=⟨n - 1,by omega⟩
 simp only [m_ref06_word,b_ref06_word]
 rw [rrange (by omega) (by omega) (by omega) (by omega) (by omega),Option.bind_some,rrange (by omega) (by omega) (by omega) (by omega) (by omega),Option.bind_some,ror _ _ (by omega),Option.bind_some,
  rrange (by omega) (by omega) (by omega) (by omega) (by omega),Option.bind_some,rone_eq (by omega) (by omega) (by omega),Option.bind_some,ror _ _ (by omega),Option.bind_some,ror _ _ (by omega),Option.bind_some]
 refine congrArg some (RS_congr fun i _=>?_)
 simp only [word,Bool.or_assoc]
theorem rspace_eq {n:Nat} (hn:270 ≤ n):m_ref06_space n = some (RS spc):=by
 obtain ⟨n,rfl⟩:∃ m,n = m + 1:=⟨n - 1,by omega⟩
 simp only [m_ref06_space,b_ref06_space]
 rw [rrange (by omega) (by omega) (by omega) (by omega) (by omega),Option.bind_some,rone_eq (by omega) (by omega) (by omega),Option.bind_some,ror _ _ (by omega),Option.bind_some]
 rfl
theorem rdigit_eq {n:Nat} {c:Int} (hn:20 ≤ n) (h0:0 ≤ c) (h1:c < 256):m_ref06_Digit n c = some (dg c):=by
 obtain ⟨n,rfl⟩:∃ m,n = m + 20:=⟨n - 20,by omega⟩
 have e:((List.range 256).all fun c=>m_ref06_Digit (n + 20) (c:Int) == some (dg (c:Int))) = true:=by kernel_rfl
 exact beq_iff_eq.1 (all256 (f:=fun c=>m_ref06_Digit (n + 20) c == some (dg c)) e h0 h1)
theorem bt_drop (s:ByteArray) (a k:Nat):bt s ((a + k:Nat):Int) = ((B s).drop a)[k]?:=by rw [bt_nat,List.getElem?_drop]
def rescR (a:Nat):Option (IS × Nat) → ref01_Set × Int
 | none=>(ref01_Set.zero,0)
 | some (x,k)=>(RS x.p,((a + k:Nat):Int))
theorem lt11:(decide ((0:Int) < 11) = true) ∧ (decide ((1:Int) < 11) = true) ∧ (decide ((2:Int) < 11) = true) ∧ (decide ((3:Int) < 11) = true) ∧ (decide ((4:Int) < 11) = true) ∧ (decide ((5:Int) < 11) = true) ∧ (decide ((6:Int) < 11) = true) ∧ (decide ((7:Int) < 11) = true) ∧ (decide ((8:Int) < 11) = true) ∧ (decide ((9:Int) < 11) = true) ∧ (decide ((10:Int) < 11) = true) ∧ (decide ((11:Int) < 11) = false):=by decide
theorem wp11:(IntKind.i64.wrap (0 + 1) = 1) ∧ (IntKind.i64.wrap (1 + 1) = 2) ∧ (IntKind.i64.wrap (2 + 1) = 3) ∧ (IntKind.i64.wrap (3 + 1) = 4) ∧ (IntKind.i64.wrap (4 + 1) = 5) ∧ (IntKind.i64.wrap (5 + 1) = 6) ∧ (IntKind.i64.wrap (6 + 1) = 7) ∧ (IntKind.i64.wrap (7 + 1) = 8) ∧ (IntKind.i64.wrap (8 + 1) = 9) ∧ (IntKind.i64.wrap (9 + 1) = 10) ∧ (IntKind.i64.wrap (10 + 1) = 11):=by decide +kernel
def names:ByteArray:=⟨#[100,68,119,87,115,83,110,116,114,102,118]⟩
theorem bt_names:(bt names 0 = some 100) ∧ (bt names 1 = some 68) ∧ (bt names 2 = some 119) ∧ (bt names 3 = some 87) ∧ (bt names 4 = some 115) ∧ (bt names 5 = some 83) ∧ (bt names 6 = some 110) ∧ (bt names 7 = some 116) ∧ (bt names 8 = some 114) ∧ (bt names 9 = some 102) ∧ (bt names 10 = some 118):=⟨rfl,rfl,rfl,rfl,rfl,rfl,rfl,rfl,rfl,rfl,rfl⟩
theorem names_size:(names.size:Int) = 11:=rfl
theorem ck11:(ck 11 0 = some 0) ∧ (ck 11 1 = some 1) ∧ (ck 11 2 = some 2) ∧ (ck 11 3 = some 3) ∧ (ck 11 4 = some 4) ∧ (ck 11 5 = some 5) ∧ (ck 11 6 = some 6) ∧ (ck 11 7 = some 7) ∧ (ck 11 8 = some 8) ∧ (ck 11 9 = some 9) ∧ (ck 11 10 = some 10):=⟨rfl,rfl,rfl,rfl,rfl,rfl,rfl,rfl,rfl,rfl,rfl⟩
theorem resc_eq {n:Nat} {s:ByteArray} {a:Nat} {b:Int} {r:List Int} (hn:290 ≤ n) (hz:s.size ≤ 100000) (hr:(B s).drop a = b :: r):m_ref06_escape n s (a:Int) = some (rescR (a + 1) (esc r)):=by
 obtain ⟨n,rfl⟩:∃ m,n = m + 20:=⟨n - 20,by omega⟩
 have hl:s.size = a + 1 + r.length:=by
  have:=congrArg List.length hr
  rw [List.length_drop,B_len,List.length_cons] at this
  omega
 have hbt:∀ k,bt s ((a + 1 + k:Nat):Int) = r[k]?:=fun k=>by rw [show a + 1 + k = a + (k + 1) by omega,bt_drop,hr,List.getElem?_cons_succ]
 show b_ref06_escape (m_ref01_Range (n + 19)) (m_ref01_Not (n + 19)) (m_ref06_one (n + 19)) (m_ref06_word (n + 19)) (m_ref06_space (n + 19)) (m_ref06_Digit (n + 19)) (n + 19) s (a:Int) = _
 unfold b_ref06_escape
 rw [wp1 (show a < 1000000 by omega)]
 cases r with
 | nil =>
  have:(s.size:Int) ≤ ((a + 1:Nat):Int):=by simp only [List.length_nil] at hl; omega
  simp only [this,decide_true,cond_true]
  rfl
 | cons c r =>
  simp only [List.length_cons] at hl
  have h0:¬ ((s.size:Int) ≤ ((a + 1:Nat):Int)):=by omega
  have hb0:=hbt 0
  rw [Nat.add_zero,List.getElem?_cons_zero] at hb0
  have hmem:∀ d ∈ c :: r,d ∈ B s:=fun d hd=>List.mem_of_mem_drop (i:=a) (by rw [hr]; exact List.mem_cons_of_mem _ hd)
  have hc:=B_rng (hmem c (by simp))
  simp only [h0,decide_false,cond_false]
  rw [hb0,Option.bind_some,rrange (by omega) (by omega) (by omega) (by omega) (by omega),Option.bind_some,rnot _ (by omega),Option.bind_some,rword_eq (by omega),Option.bind_some,rnot _ (by omega),Option.bind_some,
   rspace_eq (by omega),Option.bind_some,rnot _ (by omega),Option.bind_some,rone_eq (by omega) (by omega) (by omega),Option.bind_some,rone_eq (by omega) (by omega) (by omega),Option.bind_some,
   rone_eq (by omega) (by omega) (by omega),Option.bind_some,rone_eq (by omega) (by omega) (by omega),Option.bind_some,rone_eq (by omega) (by omega) (by omega),Option.bind_some,w64 (n:=(a:Int) + 2) (by omega) (by omega)]
  show b_ref06_escape_1 _ _ _ _ _ _ (n + 19) (n + 19) s (a:Int) ref01_Set.zero ref01_Set.zero c _ names _ 0 = _
  simp only [esc]
  have fin:∀ (P:Nat → Bool) (k:Nat) (x:IS),P = x.p → ((a:Int) + k) = ((a + 1 + (k - 1):Nat):Int) → (some (RS P,(a:Int) + k):Option (ref01_Set × Int)) = some (rescR (a + 1) (some (x,k - 1))):=fun P k x h1 h2=>by
   rw [h1,h2]; rfl
  iterate 11
   rw [b_ref06_escape_1.eq_2,names_size]
   simp only [lt11,cond_true,bt_names,Option.bind_some,wp11]
  rw [b_ref06_escape_1.eq_2,names_size]
  simp only [lt11,cond_false,Sl.l,List.length_cons,List.length_nil,Nat.zero_add,Nat.reduceAdd,ck11,Option.bind_some]
  by_cases h1:c = 100
  ·subst h1; exact fin _ 2 (.sp 0) rfl (by omega)
  have h1':¬ ((100:Int) = c):=fun h=>h1 h.symm
  simp only [h1,h1',decide_false,cond_false,if_false]
  by_cases h2:c = 68
  ·subst h2; exact fin _ 2 (.sp 1) rfl (by omega)
  have h2':¬ ((68:Int) = c):=fun h=>h2 h.symm
  simp only [h2,h2',decide_false,cond_false,if_false]
  by_cases h3:c = 119
  ·subst h3; exact fin _ 2 (.sp 2) rfl (by omega)
  have h3':¬ ((119:Int) = c):=fun h=>h3 h.symm
  simp only [h3,h3',decide_false,cond_false,if_false]
  by_cases h4:c = 87
  ·subst h4; exact fin _ 2 (.sp 3) rfl (by omega)
  have h4':¬ ((87:Int) = c):=fun h=>h4 h.symm
  simp only [h4,h4',decide_false,cond_false,if_false]
  by_cases h5:c = 115
  ·subst h5; exact fin _ 2 (.sp 4) rfl (by omega)
  have h5':¬ ((115:Int) = c):=fun h=>h5 h.symm
  simp only [h5,h5',decide_false,cond_false,if_false]
  by_cases h6:c = 83
  ·subst h6; exact fin _ 2 (.sp 5) rfl (by omega)
  have h6':¬ ((83:Int) = c):=fun h=>h6 h.symm
  simp only [h6,h6',decide_false,cond_false,if_false]
  by_cases hx:c = 120
  ·have g1:¬ ((110:Int) = c):=by omega
   have g2:¬ ((116:Int) = c):=by omega
   have g3:¬ ((114:Int) = c):=by omega
   have g4:¬ ((102:Int) = c):=by omega
   have g5:¬ ((118:Int) = c):=by omega
   have g6:¬ (c = 95):=by omega
   simp only [g1,g2,g3,g4,g5,g6,decide_false,cond_false]
   simp only [hx,decide_true,if_true,Bool.true_and]
   rw [w64 (n:=(120:Int)) (by omega) (by omega),show ck 256 120 = some 120 from rfl,Option.bind_some,RS_nth _ (by omega),show word 120 = true by decide +kernel]
   simp only [Bool.not_true,cond_false,Option.bind_some]
   rw [w64 (n:=(a:Int) + 3) (by omega) (by omega)]
   match r,hl,hbt,hmem with
   | [],hl,hbt,hmem =>
    have:¬ ((a:Int) + 3 < (s.size:Int)):=by simp only [List.length_nil] at hl; omega
    simp only [this,decide_false,cond_false,Option.bind_some]
    rfl
   | [d],hl,hbt,hmem =>
    have:¬ ((a:Int) + 3 < (s.size:Int)):=by simp only [List.length_cons,List.length_nil] at hl; omega
    simp only [this,decide_false,cond_false,Option.bind_some]
    rfl
   | d :: e :: r,hl,hbt,hmem =>
    have:((a:Int) + 3 < (s.size:Int)):=by simp only [List.length_cons] at hl; omega
    have k1:bt s ((a:Int) + 2) = some d:=by rw [show (a:Int) + 2 = ((a + 1 + 1:Nat):Int) by omega,hbt 1]; rfl
    have k2:bt s ((a:Int) + 3) = some e:=by rw [show (a:Int) + 3 = ((a + 1 + 2:Nat):Int) by omega,hbt 2]; rfl
    have rd:=B_rng (hmem d (by simp))
    have re:=B_rng (hmem e (by simp))
    have dd:=dg_rng d
    have de:=dg_rng e
    simp only [this,decide_true,cond_true]
    rw [w64 (n:=(a:Int) + 2) (by omega) (by omega),k1,k2]
    simp only [Option.bind_some]
    rw [rdigit_eq (by omega) rd.1 rd.2,rdigit_eq (by omega) re.1 re.2]
    simp only [Option.bind_some]
    by_cases q1:0 ≤ dg d
    ·by_cases q2:0 ≤ dg e
     ·simp only [q1,q2,decide_true,cond_true,Option.bind_some,and_self,if_true]
      rw [w64 (n:=16 * dg d) (by omega) (by omega),w64 (n:=16 * dg d + dg e) (by omega) (by omega),wrap_u8 (by omega) (by omega),rone_eq (by omega) (by omega) (by omega),Option.bind_some,w64 (n:=(a:Int) + 4) (by omega) (by omega)]
      exact fin _ 4 (.one _) rfl (by omega)
     ·simp only [q1,q2,decide_true,decide_false,cond_true,cond_false,Option.bind_some,and_false,if_false]
      rfl
    ·simp only [q1,decide_false,cond_false,Option.bind_some,false_and,if_false]
     rfl
  simp only [hx,decide_false,cond_false,if_false,Bool.false_and,Option.bind_some]
  by_cases j1:c = 110
  ·subst j1; exact fin _ 2 (.one 10) rfl (by omega)
  have j1':¬ ((110:Int) = c):=fun h=>j1 h.symm
  simp only [j1,j1',decide_false,cond_false,if_false]
  by_cases j2:c = 116
  ·subst j2; exact fin _ 2 (.one 9) rfl (by omega)
  have j2':¬ ((116:Int) = c):=fun h=>j2 h.symm
  simp only [j2,j2',decide_false,cond_false,if_false]
  by_cases j3:c = 114
  ·subst j3; exact fin _ 2 (.one 13) rfl (by omega)
  have j3':¬ ((114:Int) = c):=fun h=>j3 h.symm
  simp only [j3,j3',decide_false,cond_false,if_false]
  by_cases j4:c = 102
  ·subst j4; exact fin _ 2 (.one 12) rfl (by omega)
  have j4':¬ ((102:Int) = c):=fun h=>j4 h.symm
  simp only [j4,j4',decide_false,cond_false,if_false]
  by_cases j5:c = 118
  ·subst j5; exact fin _ 2 (.one 11) rfl (by omega)
  have j5':¬ ((118:Int) = c):=fun h=>j5 h.symm
  simp only [j5,j5',decide_false,cond_false,if_false]
  rw [w64 (n:=c) (by omega) (by omega),ck_int hc.1 (by omega),Option.bind_some,RS_nth _ (by omega)]
  have e1:(bif decide (c = 95) then some true else some (!word c.toNat)) = some (!decide (c ≠ 95 ∧ word c.toNat = true)):=by
   by_cases q:c = 95
   ·simp [q]
   ·simp [q]
  rw [e1,Option.bind_some]
  by_cases q:c ≠ 95 ∧ word c.toNat = true
  ·rw [if_pos q]
   simp only [q,decide_true,Bool.not_true,cond_false,and_self,ne_eq,not_false_eq_true]
   rfl
  ·rw [if_neg q]
   simp only [q,decide_false,Bool.not_false,cond_true]
   rw [rone_eq (by omega) hc.1 hc.2,Option.bind_some]
   exact fin _ 2 (.one c) rfl (by omega)
theorem ritem_eq {n:Nat} {s:ByteArray} {a:Nat} (hn:291 ≤ n) (hz:s.size ≤ 100000) (ha:a ≤ 200000):m_ref06_item n s (a:Int) = some (rescR a (item ((B s).drop a))):=by
 obtain ⟨n,rfl⟩:∃ m,n = m + 1:=⟨n - 1,by omega⟩
 show b_ref06_item (m_ref06_one n) (m_ref06_escape n) n s (a:Int) = _
 unfold b_ref06_item
 have hbt:bt s (a:Int) = ((B s).drop a).head?:=drop_hd s a
 cases hr:(B s).drop a with
 | nil =>
  have:s.size ≤ a:=by have:=congrArg List.length hr; rw [List.length_drop,B_len,List.length_nil] at this; omega
  have:(s.size:Int) ≤ (a:Int):=by omega
  simp only [this,decide_true,cond_true,Option.bind_some]
  rfl
 | cons c r =>
  have hl:s.size = a + 1 + r.length:=by
   have:=congrArg List.length hr
   rw [List.length_drop,B_len,List.length_cons] at this
   omega
  have h0:¬ ((s.size:Int) ≤ (a:Int)):=by omega
  have hc:=B_rng (List.mem_of_mem_drop (l:=B s) (i:=a) (a:=c) (by rw [hr]; simp))
  rw [hr,List.head?_cons] at hbt
  simp only [h0,decide_false,cond_false,hbt,Option.bind_some,item]
  by_cases h1:c = 91
  ·simp only [h1,decide_true,cond_true,Option.bind_some,true_or,if_true]; rfl
  by_cases h2:c = 93
  ·simp only [h1,h2,decide_true,decide_false,cond_true,cond_false,Option.bind_some,true_or,or_true,if_true]; rfl
  by_cases h3:c = 45
  ·simp only [h1,h2,h3,decide_true,decide_false,cond_true,cond_false,Option.bind_some,true_or,or_true,if_true]; rfl
  simp only [h1,h2,h3,decide_false,cond_false,Option.bind_some,or_self,if_false]
  by_cases h4:c = 92
  ·simp only [h4,decide_true,cond_true,if_true]
   rw [resc_eq (by omega) hz hr,Option.bind_some]
   cases esc r with
   | none=>rfl
   | some x =>
    obtain ⟨x,k⟩:=x
    simp only [rescR,Option.map_some]
    rw [show a + 1 + k = a + (k + 1) by omega]
  ·simp only [h4,decide_false,cond_false,if_false]
   rw [rone_eq (by omega) hc.1 hc.2,Option.bind_some,wp1 (by omega)]
   rfl
theorem cf_one {c:Nat} (h:c < 256):cf (one (c:Int)) 256 = 1:=by
 have e:((List.range 256).all fun c=>cf (one (c:Int)) 256 == 1) = true:=by kernel_rfl
 have:=List.all_eq_true.1 e c (List.mem_range.2 h)
 exact beq_iff_eq.1 this
theorem mf_one {c:Nat} (h:c < 256):mf (one (c:Int)) 256 = ((c:Int),true):=by
 have e:((List.range 256).all fun c=>mf (one (c:Int)) 256 == ((c:Int),true)) = true:=by kernel_rfl
 have:=List.all_eq_true.1 e c (List.mem_range.2 h)
 exact beq_iff_eq.1 this
theorem cf_sp (k:Nat):cf (IS.sp k).p 256 ≠ 1:=by
 match k with
 | 0=>rw [show cf (IS.sp 0).p 256 = 10 by kernel_rfl]; decide
 | 1=>rw [show cf (IS.sp 1).p 256 = 246 by kernel_rfl]; decide
 | 2=>rw [show cf (IS.sp 2).p 256 = 63 by kernel_rfl]; decide
 | 3=>rw [show cf (IS.sp 3).p 256 = 193 by kernel_rfl]; decide
 | 4=>rw [show cf (IS.sp 4).p 256 = 6 by kernel_rfl]; decide
 | k + 5=>rw [show cf (IS.sp (k + 5)).p 256 = 250 by kernel_rfl]; decide
theorem rofIS (a:IS) (h:∀ c,a = .one c → 0 ≤ c ∧ c < 256):(∃ c,a = .one c ∧ (mf a.p 256).1 = c ∧ (cf a.p 256:Int) = 1) ∨ ((∃ k,a = .sp k) ∧ ¬ ((cf a.p 256:Int) = 1)):=by
 cases a with
 | one c =>
  have hc:=h c rfl
  obtain ⟨c,rfl⟩:∃ m:Nat,c = m:=⟨c.toNat,by omega⟩
  refine .inl ⟨c,rfl,?_,?_⟩
  ·show (mf (one (c:Int)) 256).1 = _
   rw [mf_one (by omega)]
  ·show ((cf (one (c:Int)) 256:Nat):Int) = 1
   rw [cf_one (by omega)]; rfl
 | sp k =>
  have:=cf_sp k
  exact .inr ⟨⟨k,rfl⟩,by omega⟩
def rclsR (not:Bool) (a:Nat):Option ((Nat → Bool) × Nat) → Arr Int 4 × Int × Int
 | none=>(Arr.rep 4 0,0,3)
 | some (P,c)=>((W fun i=>xor not (P i)).f_W,((a + c:Nat):Int),0)
theorem rclass_loop {n:Nat} {s:ByteArray} (hn:300 ≤ n) (hz:s.size ≤ 100000) (z z':Arr Int 4) (nt:Bool) (t0:Nat):∀ (k k':Nat) (P:Nat → Bool) (c it:Nat),k ≤ k' → t0 + c ≤ s.size → it ≤ c → s.size - (t0 + c) < k →
  b_ref06_Class_2 (m_ref06_starts n) (m_ref06_item n) (m_ref01_Min n) (m_ref01_Len n) (m_ref01_Range n) (m_ref01_Or n) (m_ref01_Not n) (m_ref01_Words n) n k' s z (Arr.rep 4 0) nt ((t0 + c:Nat):Int) (RS P) (it:Int) = some (rclsR nt t0 (items k ((B s).drop (t0 + c)) (decide (it = 0)) P c)):=by
 intro k
 induction k with
 | zero=>intro k' P c it _ _ _ h; omega
 | succ k ih =>
  intro k' P c it hk hc hit hm
  obtain ⟨k',rfl⟩:∃ m,k' = m + 1:=⟨k' - 1,by omega⟩
  rw [b_ref06_Class_2.eq_2,items]
  have hst:=starts_eq (n:=n) (s:=s) (h:=⟨#[93]⟩) (a:=t0 + c) (by omega) (by omega) hz (by decide) (by decide)
  rw [show B ⟨#[93]⟩ = [93] from rfl,pre1] at hst
  rw [hst]
  have e1:(bif decide ((it:Int) = 0) then some true else ((some (decide (((B s).drop (t0 + c)).head? = some 93))).bind fun v138=>some (!v138))) = some (!decide (decide (it = 0) = false ∧ ((B s).drop (t0 + c)).head? = some 93)):=by
   by_cases h:it = 0
   ·simp [h]
   ·have h':¬ ((it:Int) = 0):=by omega
    simp [h,h']
  rw [e1,Option.bind_some]
  by_cases hstop:decide (it = 0) = false ∧ ((B s).drop (t0 + c)).head? = some 93
  ·rw [if_pos hstop,decide_eq_true hstop]
   simp only [Bool.not_true,cond_false]
   have hlt:t0 + c < s.size:=by
    rcases Nat.lt_or_ge (t0 + c) s.size with h | h
    ·exact h
    ·rw [drop_none (by omega)] at hstop; cases hstop.2
   cases nt with
   | true =>
    simp only [cond_true]
    rw [rnot _ (by omega),Option.bind_some,b_ref06_Class_4,rwords _ (by omega),Option.bind_some,wp1 (by omega)]
    simp only [rclsR,Bool.true_xor]
    rfl
   | false =>
    simp only [cond_false]
    rw [b_ref06_Class_4,rwords _ (by omega),Option.bind_some,wp1 (by omega)]
    simp only [rclsR,Bool.false_xor]
    rfl
  rw [if_neg hstop,decide_eq_false hstop]
  simp only [Bool.not_false,cond_true]
  rw [ritem_eq (by omega) hz (by omega),Option.bind_some]
  simp only [span]
  have hby:=(B_byt s).drop (t0 + c)
  cases hi:item ((B s).drop (t0 + c)) with
  | none=>simp only [rescR,decide_true,cond_true]; rfl
  | some x =>
   obtain ⟨x,m⟩:=x
   have hr:=item_rng hby hi
   rw [List.length_drop,B_len] at hr
   have e0:¬ (((t0 + c + m:Nat):Int) = 0):=by omega
   simp only [rescR,e0,decide_false,cond_false]
   have hst2:=starts_eq (n:=n) (s:=s) (h:=⟨#[45]⟩) (a:=t0 + c + m) (by omega) (by omega) hz (by decide) (by decide)
   rw [show B ⟨#[45]⟩ = [45] from rfl,pre1] at hst2
   rw [hst2,Option.bind_some,List.head?_drop,show (B s)[t0 + c + m]? = ((B s).drop (t0 + c))[m]? by rw [List.getElem?_drop]]
   have hw:IntKind.i64.wrap ((it:Int) + 1) = ((it + 1:Nat):Int):=wp1 (by omega)
   by_cases h45:((B s).drop (t0 + c))[m]? = some 45
   ·rw [if_pos h45,decide_eq_true h45,cond_true,wp1 (by omega),ritem_eq (by omega) hz (by omega),Option.bind_some,rmin _ (by omega),Option.bind_some,show t0 + c + m + 1 = (t0 + c) + (m + 1) by omega,← List.drop_drop]
    have ha:=rofIS x hr.2.2
    cases hj:item (((B s).drop (t0 + c)).drop (m + 1)) with
    | none =>
     simp only [rescR]
     rw [RS_none,rmin _ (by omega)]
     simp only [Option.bind_some,decide_true,cond_true,Bool.true_or]
     rfl
    | some y =>
     obtain ⟨y,m2⟩:=y
     have hr2:=item_rng (hby.drop (m + 1)) hj
     rw [List.length_drop,List.length_drop,B_len] at hr2
     have hb:=rofIS y hr2.2.2
     have e2:¬ ((((t0 + c) + (m + 1) + m2:Nat):Int) = 0):=by omega
     simp only [rescR,e2,decide_false,cond_false]
     rw [rmin _ (by omega),rlen _ (by omega),rlen _ (by omega)]
     simp only [Option.bind_some]
     rcases ha with ⟨p,rfl,hp,hp1⟩ | ⟨⟨q,rfl⟩,hq1⟩
     ·rcases hb with ⟨p',rfl,hp',hp1'⟩ | ⟨⟨q',rfl⟩,hq1'⟩
      ·have r1:=hr.2.2 p rfl
       have r2:=hr2.2.2 p' rfl
       simp only [hp1,hp1',decide_true,Bool.not_true,cond_false,Option.bind_some,Bool.false_or,hp,hp']
       by_cases hlt:p' < p
       ·simp only [hlt,decide_true,cond_true,if_true]; rfl
       ·simp only [hlt,decide_false,cond_false,if_false]
        rw [rrange (by omega) r1.1 r1.2 r2.1 r2.2,Option.bind_some,b_ref06_Class_3,ror _ _ (by omega),Option.bind_some,hw]
        rw [show (t0 + c) + (m + 1) + m2 = t0 + (c + (m + 1 + m2)) by omega]
        rw [ih k' _ _ (it + 1) (by omega) (by omega) (by omega) (by omega)]
        simp only [List.drop_drop,Nat.add_assoc]
        rfl
      ·simp only [hp1,hq1',decide_true,decide_false,Bool.not_true,Bool.not_false,cond_false,cond_true,Option.bind_some,Bool.true_or]; rfl
     ·simp only [hq1,decide_false,Bool.not_false,cond_true,Option.bind_some,Bool.true_or]
      cases y with
      | one _=>rfl
      | sp _=>rfl
   ·rw [if_neg h45,decide_eq_false h45,cond_false,b_ref06_Class_3,ror _ _ (by omega),Option.bind_some,hw,show t0 + c + m = t0 + (c + m) by omega,ih k' _ _ (it + 1) (by omega) (by omega) (by omega) (by omega)]
    simp only [List.drop_drop,Nat.add_assoc]
    rfl
theorem rclass_eq {n:Nat} {s:ByteArray} {a:Nat} (hn:310 + s.size ≤ n) (hz:s.size ≤ 100000) (h:((B s).drop a).head? = some 91):m_ref06_Class n s (a:Int) = some (rclsR false a (cls ((B s).drop a))):=by
 obtain ⟨n,rfl⟩:∃ m,n = m + 1:=⟨n - 1,by omega⟩
 have hlt:a < s.size:=by
  rcases Nat.lt_or_ge a s.size with h' | h'
  ·exact h'
  ·rw [drop_none (by omega)] at h; cases h
 show b_ref06_Class (m_ref06_starts n) (m_ref06_item n) (m_ref01_Min n) (m_ref01_Len n) (m_ref01_Range n) (m_ref01_Or n) (m_ref01_Not n) (m_ref01_Words n) n s (a:Int) = _
 unfold b_ref06_Class
 have h1:¬ ((a:Int) < 0):=by omega
 have h2:¬ ((s.size:Int) ≤ (a:Int)):=by omega
 simp only [h1,h2,decide_false,Bool.or_false,cond_false]
 rw [drop_hd,h,Option.bind_some,Option.bind_some]
 simp only [decide_true,Bool.not_true,cond_false]
 have hst:=starts_eq (n:=n) (s:=s) (h:=⟨#[94]⟩) (a:=a + 1) (by omega) (by omega) hz (by decide) (by decide)
 rw [show B ⟨#[94]⟩ = [94] from rfl,pre1] at hst
 rw [wp1 (by omega),hst,Option.bind_some]
 obtain ⟨r,hr⟩:∃ r,(B s).drop a = 91 :: r:=by
  cases hq:(B s).drop a with
  | nil=>rw [hq] at h; cases h
  | cons b r=>rw [hq] at h; injection h with h; subst h; exact ⟨r,rfl⟩
 have hr1:(B s).drop (a + 1) = r:=by rw [← List.drop_drop,hr]; rfl
 have hrl:r.length = s.size - (a + 1):=by rw [← hr1,List.length_drop,B_len]
 rw [hr1,hr,cls]
 by_cases h94:r.head? = some 94
 ·obtain ⟨r',rfl⟩:∃ r',r = 94 :: r':=by
   cases r with
   | nil=>cases h94
   | cons b r=>injection h94 with h; subst h; exact ⟨r,rfl⟩
  simp only [List.length_cons] at hrl
  rw [if_pos h94,decide_eq_true h94,cond_true,b_ref06_Class_1,wp1 (by omega),RS_none]
  have e:=rclass_loop (n:=n) (s:=s) (by omega) hz (Arr.rep 4 0) (Arr.rep 4 0) true a (r'.length + 2) n (fun _=>false) 2 0 (by omega) (by omega) (by omega) (by omega)
  have hr2:(B s).drop (a + 2) = r':=by
   have:(B s).drop (a + 2) = ((B s).drop (a + 1)).drop 1:=by rw [List.drop_drop]
   rw [this,hr1]; rfl
  rw [hr2,show decide ((0:Nat) = 0) = true from rfl] at e
  rw [show a + 1 + 1 = a + 2 from rfl]
  refine Eq.trans e ?_
  simp only [List.length_cons,List.drop_succ_cons,List.drop_zero]
  cases items (r'.length + 2) r' true (fun _=>false) 2 with
  | none=>rfl
  | some x=>simp [rclsR]
 ·rw [if_neg h94,decide_eq_false h94,cond_false,b_ref06_Class_1,RS_none]
  have e:=rclass_loop (n:=n) (s:=s) (by omega) hz (Arr.rep 4 0) (Arr.rep 4 0) false a (r.length + 1) n (fun _=>false) 1 0 (by omega) (by omega) (by omega) (by omega)
  rw [hr1] at e
  exact e
end Go.Proofs.YtcjnmmeibppblaaDoor
