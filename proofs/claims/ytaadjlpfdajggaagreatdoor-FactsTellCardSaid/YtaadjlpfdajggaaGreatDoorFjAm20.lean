import Derived.Test.YtaadjlpfdajggaaGreatDoorFjAm19
set_option linter.unusedVariables false
set_option linter.unusedSimpArgs false
namespace Go.AM
open Go
def alP (H:Hp) (t:TypeId) (cs:List Value):Option (R1 × Hp):=some (.val (.pointer (some ⟨H.length,0,none⟩)),H ++ [.cells cs t])
def bxP (M:Mach) (H:Hp) (t:TypeId) (u:Value):Option (R1 × Hp):=on1 M 0 0 H (.box t (.tmp 0)) u
def cvP (M:Mach) (H:Hp) (s d:TypeId) (u:Value):Option (R1 × Hp):=on1 M 0 0 H (.convert s d (.tmp 0)) u
def unP (M:Mach) (H:Hp) (op:UnOp) (t:TypeId) (u:Value):Option (R1 × Hp):=on1 M 0 0 H (.unOp op t (.tmp 0)) u
def bdP (M:Mach) (H:Hp) (t:TypeId) (ps:List (Nat × Value)):Option (R1 × Hp):=(zc M.P t).bind fun z =>
  match M.P.underlying t with
  | some (.struct fs)=>(placesO M.P fs.toList).bind fun pl=>(fillL (fun i=>pl[i]?) z ps).map fun cs=>(.val (.agg cs.toArray),H)
  | some (.array _ e)=>(szO M.P e).bind fun n=>(fillL (fun i=>some (i * n,n)) z ps).map fun cs=>(.val (.agg cs.toArray),H)
  | _=>none
def bsP (M:Mach) (H:Hp) (t:TypeId) (n:Nat) (ps:List (Nat × Value)):Option (R1 × Hp) :=
  match M.P.underlying t with
  | some (.slice e)=>(zc M.P e).bind fun z =>
   if n * z.length <= 2 ^ 24 then
    (fillL (fun i=>some (i * z.length,z.length)) (List.replicate n z).flatten ps).bind fun cs =>
     if cs.all oneB then some (.val (.slice (some ⟨H.length,0,none⟩) n 0),H ++ [.cells cs e]) else none
   else none
  | _=>none
def stP (M:Mach) (ro:Nat) (H:Hp) (t:TypeId) (p v:Value):Option Hp :=
 match p with
 | .pointer (some a)=>stVar M.P ro H t a v
 | _=>none
def soilP (nb:Nat) (p:Value) (v:Value) (d:List Nat):List Nat :=
 match p with
 | .pointer (some a)=>soil nb a.block v.cells.toList d
 | _=>d
def slP (M:Mach) (H:Hp) (t:TypeId) (u:Value) (lo hi:Option Value):Option (R1 × Hp):=(sliceA M.P H t u lo hi).map fun r=>(.val r.1,r.2)
def rgP (M:Mach) (H:Hp) (t:TypeId) (u:Value):Option (R1 × Hp):=on1 M 0 0 H (.range t (.tmp 0)) u
def nxP (M:Mach) (ro:Nat) (H:Hp) (u:Value):Option (R1 × Hp):=on1 M 0 ro H (.next (.tmp 0) true) u
def apP (M:Mach) (nb ro:Nat) (H:Hp) (ts:Array TypeId) (u v:Value):Option (R1 × Hp):=(appendA M.P nb ro H ts u v).map fun r=>(.val r.1,r.2)
section
variable {M:Mach} {call:CallF} {nb ro:Nat} {σ:Env} {H:Hp} {ty t:TypeId} {x y:Operand} {d:Option Nat} {gd:Option (Nat × Bool)} {dd:List Nat}
theorem o_alloc:opA M σ nb ro H ty (.alloc t) = (zc M.P t).bind fun cs=>alP H t cs:=by
 simp only [opA,alP]; cases zc M.P t <;> rfl
theorem o_box:opA M σ nb ro H ty (.box t x) = (ev σ x).bind fun u=>bxP M H t u:=by
 simp only [opA,bxP,on1]
 cases ev σ x <;> rfl
theorem o_convert {s:TypeId}:opA M σ nb ro H ty (.convert s t x) = (ev σ x).bind fun u=>cvP M H s t u:=by
 simp only [opA,cvP,on1]
 cases ev σ x <;> rfl
theorem o_unOp {op:UnOp}:opA M σ nb ro H ty (.unOp op t x) = (ev σ x).bind fun u=>unP M H op t u:=by
 simp only [opA,unP,on1]
 cases ev σ x <;> rfl
theorem o_build {ps:Array (Nat × Operand)}:opA M σ nb ro H ty (.build t ps) = (evParts σ ps.toList).bind fun l=>bdP M H t l:=by
 simp only [opA]; congr 1
theorem o_buildSlice {n:Nat} {ps:Array (Nat × Operand)}:opA M σ nb ro H ty (.buildSlice t n ps) = (evParts σ ps.toList).bind fun l=>bsP M H t n l:=by
 simp only [opA]; congr 1
theorem o_range:opA M σ nb ro H ty (.range t x) = (ev σ x).bind fun u=>rgP M H t u:=by
 cases hx:ev σ x with
 | none=>simp only [opA,hx]; split <;> simp_all
 | some u=>simp only [opA,hx,oBs]; rfl
theorem o_next:opA M σ nb ro H ty (.next x true) = (ev σ x).bind fun u=>nxP M ro H u:=by
 cases hx:ev σ x with
 | none=>simp only [opA,hx]; rfl
 | some u=>simp only [opA,hx,oBs]; rfl
theorem o_slice {lo hi:Option Operand}:opA M σ nb ro H ty (.slice t x lo hi none) = (ev σ x).bind fun u=>(match lo with | some l=>(ev σ l).map some | none=>some none).bind fun l=>(match hi with | some l=>(ev σ l).map some | none=>some none).bind fun h=>slP M H t u l h:=by
 cases hx:ev σ x with
 | none=>simp only [opA,hx]; rfl
 | some u =>
  simp only [opA,hx,slP]
  cases lo with
  | none=>cases hi with
   | none=>rfl
   | some h=>cases hh:ev σ h <;> simp [hh]
  | some l =>
   cases hl:ev σ l with
   | none=>simp [hl]
   | some l'=>cases hi with
    | none=>simp [hl]
    | some h=>cases hh:ev σ h <;> simp [hl,hh]
theorem sl_n:(match (none:Option Operand) with | some l=>(ev σ l).map some | none=>some none) = some (none:Option Value):=rfl
theorem sl_s:(match some x with | some l=>(ev σ l).map some | none=>some none) = (ev σ x).map some:=rfl
theorem r_stP:run1 M call nb ro ⟨d,.store t x y,ty,gd⟩ ⟨σ,H,dd⟩ = (ev σ x).bind fun p=>(ev σ y).bind fun v=>(stP M ro H t p v).map fun H=>⟨put d undef σ,H,soilP nb p v dd⟩:=by
 rw [r_store]
 cases ev σ x with
 | none=>rfl
 | some p=>cases ev σ y with
  | none=>rfl
  | some v=>cases p with
   | pointer a=>cases a <;> rfl
   | _=>rfl
theorem c_jS {ts:Array TypeId}:callA M σ nb ro H ty { callee:=.builtin .append,args:=#[x,y],argTypes:=ts } = (ev σ x).bind fun u=>(ev σ y).bind fun v=>apP M nb ro H ts u v:=by
 simp only [callA,apP]
 cases h:ev σ x with
 | none=>simp [evs,h]
 | some u=>cases h':ev σ y with
  | none=>simp [evs,h,h']
  | some v=>simp [evs,h,h']
theorem c_fn {f:FuncId} {args:Array Operand} {ts:Array TypeId} (hf:(M.F f).isSome = true) :
  callA M σ nb ro H ty { callee:=.value (.func f),args:=args,argTypes:=ts } = (evs σ args.toList).map fun vs=>(.enter f vs,H):=by
 obtain ⟨af,h⟩:=Option.isSome_iff_exists.1 hf;exact c_fun h
end
section
variable {M:Mach} {H H0:Hp} {r b:Nat} {t e:TypeId}
theorem al_ok (H:Hp) (t:TypeId) (cs:List Value) (hr:r <= H.length):∃ b H',alP H t cs = some (.val (.pointer (some ⟨b,0,none⟩)),H') /\ H'[b]? = some (.cells cs t) /\ b = H.length /\ r <= b /\ Ex H H' /\ (∀ X H0,Iv r X H0 H -> Iv r X H0 H') :=
 ⟨H.length,_,rfl,by simp,rfl,hr,ex_app,fun _ _ h=>h.app⟩
theorem bx_ok (H:Hp) {u:Value} {cs:List Value} (hr:r <= H.length) (hz:szO M.P t = some cs.length) (hu:u.cells.toList = cs) (h1:∀ v ∈ cs,oneB v = true) :
  ∃ b H',bxP M H t u = some (.val (.pointer (some ⟨b,0,none⟩)),H') /\ H'[b]? = some (.cells cs t) /\ b = H.length /\ r <= b /\ Ex H H' /\ (∀ X H0,Iv r X H0 H -> Iv r X H0 H'):=by
 subst hu;refine ⟨H.length,H ++ [.cells u.cells.toList t],?_,by simp,rfl,hr,ex_app,fun _ _ h=>h.app⟩;simp only [bxP,on1,opA,ev0,oBs,hz,true_and];rw [if_pos (List.all_eq_true.2 h1)]
theorem ld_agg {cs c:List Value} {off:Nat} (hb:H[b]? = some (.cells cs e)) (ha:aggO M.P t = some true) (hz:szO M.P t = some c.length) (hs:Seg cs off c):ldP M H t (.pointer (some ⟨b,off,none⟩)) = some (.val (vAgg c),H):=by
 simp only [ldP,on1,opA,ev0,ldVar,hb,ha,hz,Option.isSome_none,bFt,if_false];rw [if_pos hs.2,hs.1]; rfl
theorem ld_one {cs:List Value} {v:Value} {off:Nat} (hb:H[b]? = some (.cells cs e)) (ha:aggO M.P t = some false) (hs:Seg cs off [v]):ldP M H t (.pointer (some ⟨b,off,none⟩)) = some (.val v,H):=by
 have hg:cs[off]? = some v:=by
  have h1:=hs.1;have h2:=hs.2;simp only [List.length_cons,List.length_nil] at h1 h2
  have:((cs.drop off).take 1)[0]? = some v:=by rw [h1]; rfl
  simpa [List.getElem?_take,List.getElem?_drop] using this
 simp only [ldP,on1,opA,ev0,ldVar,hb,ha,hg,Option.isSome_none,bFt,if_false,oMs]
theorem lds_agg {cs c:List Value} {off:Nat} (hb:Rb H b cs e) (ha:aggO M.P t = some true) (hz:szO M.P t = some c.length) (hs:Seg cs off c):ldP M H t (.pointer (some ⟨b,off,none⟩)) = some (.val (vAgg c),H):=by
 rcases hb.eq with hb | hb
 ·exact ld_agg hb ha hz hs
 ·simp only [ldP,on1,opA,ev0,ldVar,hb,ha,hz,Option.isSome_none,bFt,if_false];rw [if_pos hs.2,hs.1]; rfl
theorem lds_one {cs:List Value} {v:Value} {off:Nat} (hb:Rb H b cs e) (ha:aggO M.P t = some false) (hs:Seg cs off [v]):ldP M H t (.pointer (some ⟨b,off,none⟩)) = some (.val v,H):=by
 rcases hb.eq with hb | hb
 ·exact ld_one hb ha hs
 ·have hg:cs[off]? = some v:=by
   have h1:=hs.1;have h2:=hs.2;simp only [List.length_cons,List.length_nil] at h1 h2
   have:((cs.drop off).take 1)[0]? = some v:=by rw [h1]; rfl
   simpa [List.getElem?_take,List.getElem?_drop] using this
  simp only [ldP,on1,opA,ev0,ldVar,hb,ha,hg,Option.isSome_none,bFt,if_false,oMs]
theorem ld_tab {cs:List Value} {v:Value} {off:Nat} (hb:H[b]? = some (.tab cs)) (ha:aggO M.P t = some false) (hs:cs[off]? = some v):ldP M H t (.pointer (some ⟨b,off,none⟩)) = some (.val v,H):=by
 simp only [ldP,on1,opA,ev0,ldVar,hb,ha,hs,Option.isSome_none,bFt,if_false,oMs]
theorem st_ok {cs cs' c:List Value} {off ro:Nat} {v:Value} (hb:H[b]? = some (.cells cs e)) (hz:szO M.P t = some c.length) (hv:v.cells.toList = c) (h1:∀ x ∈ c,oneB x = true) (hr:ro <= b)
  (hl:off + c.length <= cs.length) (hw:wrs cs off c = cs'):∃ H',stP M ro H t (.pointer (some ⟨b,off,none⟩)) v = some H' /\ H'[b]? = some (.cells cs' e) /\ Up b H H':=by
 subst hv hw;refine ⟨H.set b (.cells (wrs cs off v.cells.toList) e),?_,by simp [get_lt hb],by simp,fun x hx=>List.getElem?_set_ne (Ne.symm hx)⟩;simp only [stP,stVar,hz,Option.isSome_none,bFt,if_false,if_true,wrB,hb];rw [if_pos (by rw [Bool.and_eq_true,decide_eq_true_eq]; exact ⟨List.all_eq_true.2 h1,hr⟩),if_pos hl]
theorem ia_sl {α:Type} {x:Sl α} {k:IntKind} {i:Int} {z:Nat} (ht:M.P.underlying t = some (.slice e)) (hz:szO M.P e = some z) :
  iaP M H t (slV x b) (.int k i) = (ck (Sl.l x).length i).map fun j=>(.val (.pointer (some ⟨b,j * z,none⟩)),H):=by
 cases x with
 | none =>
  have:ck 0 i = none:=by unfold ck; rw [if_neg (by omega)]
  simp only [Sl.l,List.length_nil,this,Option.map_none];simp only [iaP,on2,opA,ht,ev0,ev1,slV]
 | some l =>
  rw [show (Sl.l (some l)).length = l.length from rfl];simp only [iaP,on2,opA,ht,ev0,ev1,slV,ck,and_true]
  by_cases h:0 <= i /\ i < (l.length:Int)
  ·simp only [h,and_self,if_true,hz,oMs,Nat.zero_add]
  ·simp only [h,if_false,Option.map_none]
theorem ia_arr {off n:Nat} {k:IntKind} {i:Int} {z:Nat} (ht:M.P.underlying t = some (.array n e)) (hz:szO M.P e = some z) :
  iaP M H t (.pointer (some ⟨b,off,none⟩)) (.int k i) = (ck n i).map fun j=>(.val (.pointer (some ⟨b,off + j * z,none⟩)),H):=by
 simp only [iaP,on2,opA,ht,ev0,ev1,ck,and_true]
 by_cases h:0 <= i /\ i < (n:Int)
 ·simp only [h,and_self,if_true,hz,oMs]
 ·simp only [h,if_false,Option.map_none]
theorem len_sl {α:Type} {x:Sl α} (ht:M.P.underlying t = some (.slice e)):lenA M.P t (slV x b) = some (.int .i64 (Sl.len x)):=by
 cases x <;> simp [lenA,ht,slV,Sl.len,Sl.l]
theorem len_str {s:ByteArray} (ht:M.P.underlying t = some .string):lenA M.P t (.string s) = some (.int .i64 s.size):=by simp [lenA,ht]
theorem sl_str3 {s:ByteArray} {k:IntKind} {h:Int} (ht:M.P.underlying t = some .string):slP M H t (.string s) none (some (.int k h)) = (sub s 0 h).map fun u=>(.val (.string u),H):=by
 simp only [slP,sliceA,ht,sub]; split <;> rfl
theorem cv_int {u:TypeId} {k k':IntKind} {n:Int} (ht:M.P.underlying t = some (.int k)) (hu:M.P.underlying u = some (.int k')):cvP M H t u (.int k n) = some (.val (.int k' (k'.wrap n)),H):=by
 simp only [cvP,on1,opA,ev0,oBs,convA_int ht hu,oMs]
theorem fill_go {z:Nat}:∀ (ps:List (Nat × Value)) (cur:List Value) (pre:List Value) (k:Nat),(∀ (i:Nat) p,ps[i]? = some p -> p.1 = k + i /\ p.2.cells.toList.length = z) -> pre.length = k * z -> cur.length = ps.length * z ->
  fillL (fun i=>some (i * z,z)) (pre ++ cur) ps = some (pre ++ ps.flatMap fun p=>p.2.cells.toList)
 | [],cur,pre,k,h,hp,hc=>by simp at hc; subst hc; simp [fillL]
 | p :: ps,cur,pre,k,h,hp,hc=>by
  obtain ⟨h1,h2⟩:=h 0 p rfl;simp only [Nat.add_zero] at h1;obtain ⟨i,v⟩:=p;simp only at h1 h2;subst h1
  have hc':cur.length = z + ps.length * z:=by rw [hc,List.length_cons,Nat.succ_mul,Nat.add_comm]
  obtain ⟨c1,c2,rfl,hl1,hl2⟩:∃ c1 c2,cur = c1 ++ c2 /\ c1.length = z /\ c2.length = ps.length * z:=⟨cur.take z,cur.drop z,(List.take_append_drop z cur).symm,by simp [hc'],by simp [hc']⟩
  simp only [fillL];rw [if_pos ⟨h2,by simp [hp,hl1]⟩,wrs_mid hp (by rw [h2,hl1]),<- lAs];rw [fill_go ps c2 (pre ++ v.cells.toList) (i + 1) (fun j p hj=>?_) (by simp [hp,h2,Nat.succ_mul]) hl2]
  ·simp
  ·have:=h (j + 1) p (by simpa using hj)
   exact ⟨by omega,this.2⟩
theorem bs_ok (H:Hp) {α:Type} {c:α -> List Value} {l:List α} {ps:List (Nat × Value)} {zz:List Value} {n:Nat} (hr:r <= H.length) (ht:M.P.underlying t = some (.slice e)) (hz:zc M.P e = some zz) (hn:l.length = n)
  (hl:l.length * zz.length <= 2 ^ 24) (hc:∀ a,(c a).length = zz.length) (h1:∀ a,∀ v ∈ c a,oneB v = true) (hps:ps.map (fun p=>p.2.cells.toList) = l.map c) (hi:ps.map (·.1) = List.range n) :
  ∃ b H',bsP M H t n ps = some (.val (slV (some l) b),H') /\ SlO r H' c e (some l) b /\ b = H.length /\ r <= b /\ Ex H H' /\ (∀ X H0,Iv r X H0 H -> Iv r X H0 H'):=by
 subst hn
 have hlen:ps.length = l.length:=by rw [<- List.length_map (f:=fun p:Nat × Value=>p.2.cells.toList),hps,List.length_map]
 have hfill:=fill_go (z:=zz.length) ps (List.replicate l.length zz).flatten [] 0 (fun i p hp=>by
  have g1:(ps.map (·.1))[i]? = some p.1:=by rw [List.getElem?_map,hp]; rfl
  have g2:(ps.map (fun p=>p.2.cells.toList))[i]? = some p.2.cells.toList:=by rw [List.getElem?_map,hp]; rfl
  rw [hi] at g1;rw [hps,List.getElem?_map] at g2;have g3:=lGs.1 g1;obtain ⟨a,ha,g4⟩:=oMe.1 g2;obtain ⟨g5,g6⟩:=g3;rw [List.getElem_range] at g6
  exact ⟨by omega,by rw [<- g4,hc]⟩) (by simp) (by simp [hlen])
 rw [List.nil_append,List.nil_append] at hfill
 have hcs:(ps.flatMap fun p=>p.2.cells.toList) = l.flatMap c:=by rw [List.flatMap_def,List.flatMap_def,hps]
 rw [hcs] at hfill;refine ⟨H.length,H ++ [.cells (l.flatMap c) e],?_,fun l' hl'=>?_,rfl,hr,ex_app,fun _ _ h=>h.app⟩
 ·simp only [bsP,ht,hz,oBs,hl,if_true,hfill,slV];rw [if_pos];simp only [List.all_eq_true,List.mem_flatMap];rintro v ⟨a,_,hv⟩;exact h1 a v hv
 ·injection hl' with hl'; subst hl'
  exact ⟨hr,by simp⟩
theorem rdN_sl {α:Type} {c:α -> List Value} {z:Nat} {l:List α} {more:List Value} (hz:∀ a,(c a).length = z) (hk:Rb H b (l.flatMap c ++ more) e):rdN H b 0 (l.length * z) = some (l.flatMap c):=by
 have:=flatMap_len hz l
 rcases hk.eq with hk | hk
 ·simp only [rdN,hk,Nat.zero_add,lLa,this,List.drop_zero];rw [if_pos (by omega),<- this,List.take_left]
 ·simp only [rdN,hk,Nat.zero_add,lLa,this,List.drop_zero];rw [if_pos (by omega),<- this,List.take_left]
section
variable {u e':TypeId} {z w nb m:Nat} {zz new:List Value} {v:Value} (ht:M.P.underlying t = some (.slice e)) (hu:M.P.underlying u = some (.slice e')) (hz:szO M.P e = some z) (hw:bytesO M.P e = some w) (hzc:zc M.P e = some zz)
  (z0:0 < z) (w0:0 < w) (hsrc:srcCells H z v = some new) (hm:lenV v = m) (hnew:new.length = m * z) (hone:new.all oneB = true)
include ht hu hz hw hzc z0 w0 hsrc hm hnew hone
theorem append_nil:apP M nb r H #[t,u] (.slice none 0 0) v = if m = 0 then some (.val (.slice none 0 0),H) else if m * w <= roomMost then some (.val (.slice (some ⟨H.length,0,none⟩) m 0),H ++ [.cells new e]) else none:=by
 simp only [apP,appendA];simp [-List.all_eq_true,ht,hu,rowish,hz,hw,hzc,z0,w0,hsrc,hm,hnew,hone]
 split
 ·rfl
 ·split <;> rfl
theorem append_own {cs:List Value} {n:Nat} (hk:H[b]? = some (.cells cs e)) (hn:n * z = cs.length) (hr:r <= b):apP M nb r H #[t,u] (.slice (some ⟨b,0,none⟩) n 0) v =
  if m = 0 then some (.val (.slice (some ⟨b,0,none⟩) n 0),H) else if (n + m) * w <= roomMost then some (.val (.slice (some ⟨H.length,0,none⟩) (n + m) 0),H.set b .dead ++ [.cells (cs ++ new) e]) else none:=by
 have h2:∀ (h:m ≠ 0),¬ (n + m) * z <= cs.length:=fun h=>by
  rw [<- hn,Nat.add_mul]
  have:0 < m * z:=Nat.mul_pos (Nat.pos_of_ne_zero h) z0
  omega
 simp only [apP,appendA]
 by_cases h0:m = 0
 ·subst h0
  have hnil:new = []:=by simpa using hnew
  simp [-List.all_eq_true,hnil,ht,hu,rowish,hz,hw,hzc,z0,w0,hsrc,hm,hone,hk,hn,hnew]
 ·simp [-List.all_eq_true,ht,hu,rowish,hz,hw,hzc,z0,w0,hsrc,hm,hnew,hone,hk,hn,h0,hr,h2 h0]
end
theorem srcCells_sl {α:Type} {c:α -> List Value} {y:Sl α} {b2 z:Nat} {e':TypeId} (hc:∀ a,(c a).length = z) (hy:SlH H c e' y b2):srcCells H z (slV y b2) = some ((Sl.l y).flatMap c):=by
 cases y with
 | none=>simp [srcCells,slV,Sl.l]
 | some l =>
  obtain ⟨more,hk⟩:=hy l rfl;simp only [srcCells,slV,Sl.l,Option.isSome_none,bFt,if_false];exact rdN_sl hc hk
theorem app_ok {α:Type} {c:α -> List Value} {x y x':Sl α} {u e':TypeId} {z w nb b2:Nat} {zz:List Value} (ht:M.P.underlying t = some (.slice e)) (hu:M.P.underlying u = some (.slice e')) (hz:szO M.P e = some z) (hw:bytesO M.P e = some w) (hzc:zc M.P e = some zz)
  (z0:0 < z) (w0:0 < w) (hc:∀ a,(c a).length = z) (h1:∀ a,∀ v ∈ c a,oneB v = true) (hr:r <= H.length) {ro:Nat} (hro:ro <= r) (hx:SlO r H c e x b) (hy:SlH H c e' y b2) (he:Sl.app w x y = some x') :
  ∃ b' H',apP M nb ro H #[t,u] (slV x b) (slV y b2) = some (.val (slV x' b'),H') /\ SlO r H' c e x' b' /\ Mv (x ≠ none) b H H' /\ (∀ X H0,Iv r X H0 H -> Iv r X H0 H') /\ (∀ o,o < H.length -> (x ≠ none -> b ≠ o) -> x' ≠ none -> b' ≠ o):=by
 have hsrc:=srcCells_sl hc hy
 have hlen:lenV (slV y b2) = (Sl.l y).length:=by cases y <;> rfl
 have hone:((Sl.l y).flatMap c).all oneB = true:=by
  simp only [List.all_eq_true,List.mem_flatMap];rintro v ⟨a,_,hv⟩;exact h1 a v hv
 have hnew:=flatMap_len hc (Sl.l y);unfold Sl.app at he
 cases x with
 | none =>
  have key:=append_nil (nb:=nb) (r:=ro) ht hu hz hw hzc z0 w0 hsrc hlen hnew hone
  by_cases h0:(Sl.l y).length = 0
  ·rw [if_pos h0] at he key
   injection he with he; subst he
   exact ⟨b,H,key,fun l hl=>by simp at hl,⟨Nat.le_refl _,fun _ _ _ h=>h⟩,fun _ _ h=>h,fun o _ _ h=>absurd rfl h⟩
  ·rw [if_neg h0] at he key;rw [show (Sl.l (none:Sl α)).length = 0 from rfl,Nat.zero_add] at he
   split at he
   case isFalse=>cases he
   rename_i hroom
   injection he with he; subst he
   rw [if_pos hroom] at key;refine ⟨H.length,_,key,fun l hl=>?_,⟨by simp,fun o k _ hk=>ex_app o k hk⟩,fun _ _ h=>h.app,fun o ho _ _=>by omega⟩
   injection hl with hl; subst hl
   exact ⟨hr,by simp [Sl.l]⟩
 | some lx =>
  obtain ⟨hrb,hk⟩:=hx lx rfl;have key:=append_own (nb:=nb) (r:=ro) ht hu hz hw hzc z0 w0 hsrc hlen hnew hone hk (flatMap_len hc lx).symm (nLt hro hrb);rw [show (Sl.l (some lx)) = lx from rfl] at he
  by_cases h0:(Sl.l y).length = 0
  ·rw [if_pos h0] at he key
   injection he with he; subst he
   exact ⟨b,H,key,hx,⟨Nat.le_refl _,fun _ _ _ h=>h⟩,fun _ _ h=>h,fun o _ h=>h⟩
  ·rw [if_neg h0] at he key
   split at he
   case isFalse=>cases he
   rename_i hroom
   injection he with he; subst he
   rw [if_pos hroom] at key
   have hget:∀ (x:Nat) (k:Blk),x ≠ b -> H[x]? = some k -> (H.set b .dead ++ [.cells (lx.flatMap c ++ (Sl.l y).flatMap c) e])[x]? = some k:=fun x k hx hk'=>by
    rw [lGl (by simp; exact get_lt hk'),List.getElem?_set_ne (Ne.symm hx)]; exact hk'
   refine ⟨H.length,_,key.trans (by simp only [slV,lLa]),fun l hl=>?_,⟨by simp,fun o k ho hk'=>hget o k (ho (by simp)) hk'⟩,fun X H0 hi=>⟨by have:=hi.le; simp; omega,fun x hx hX=>?_⟩,fun o ho _ _=>by omega⟩
   ·injection hl with hl; subst hl
    refine ⟨hr,?_⟩;rw [lGr (by simp)]
    simp
   ·rw [lGl (by have:=hi.le; simp; omega),List.getElem?_set_ne (by omega)];exact hi.old x hx hX
end
end Go.AM
