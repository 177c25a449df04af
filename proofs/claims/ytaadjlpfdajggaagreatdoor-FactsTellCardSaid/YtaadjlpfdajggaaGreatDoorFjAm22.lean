import Derived.Test.YtaadjlpfdajggaaGreatDoorFjAm21
set_option linter.unusedVariables false
set_option linter.unusedSimpArgs false
namespace Go.AM
open Go
def shlO (k:IntKind) (a b:Int):Option Int:=if 0 <= b then some (k.wrap (a * 2 ^ min b.toNat k.bits)) else none
def shrO (k:IntKind) (a b:Int):Option Int:=if 0 <= b then some (a.fdiv (2 ^ min b.toNat k.bits)) else none
def quoO (k:IntKind) (a b:Int):Option Int:=if b = 0 then none else some (k.wrap (a.tdiv b))
def remO (a b:Int):Option Int:=if b = 0 then none else some (a.tmod b)
def andI (k:IntKind) (a b:Int):Int:=k.wrap (BitVec.ofInt k.bits a &&& BitVec.ofInt k.bits b).toNat
def orI (k:IntKind) (a b:Int):Int:=k.wrap (BitVec.ofInt k.bits a ||| BitVec.ofInt k.bits b).toNat
def xorI (k:IntKind) (a b:Int):Int:=k.wrap (BitVec.ofInt k.bits a ^^^ BitVec.ofInt k.bits b).toNat
def comI (k:IntKind) (a:Int):Int:=xorI k (if k.signed then -1 else k.max) a
def bytesOf (s:ByteArray):List Int:=s.data.toList.map fun b=>(b.toNat:Int)
def strOf (x:Sl Int):ByteArray:=⟨((Sl.l x).map fun n=>UInt8.ofNat n.toNat).toArray⟩
section
variable {P:Program} {M:Mach} {H:Hp} {t u:TypeId} {x y:Operand} {k k':IntKind} {a b:Int}
theorem bin_shl:binA P .shl t x y (.int k a) (.int k' b) = (shlO k a b).map (.int k):=by
 unfold shlO
 by_cases h:0 <= b
 ·rw [binA_shl h,if_pos h]; rfl
 ·rw [binA_intS (.inl rfl),if_neg h]; simp [Op.shift,Int.not_le.1 h,runtimePanic,pureRun_bind]; rfl
theorem bin_shr:binA P .shr t x y (.int k a) (.int k' b) = (shrO k a b).map (.int k):=by
 unfold shrO
 by_cases h:0 <= b
 ·rw [binA_shr h,if_pos h]; rfl
 ·rw [binA_intS (.inr rfl),if_neg h]; simp [Op.shift,Int.not_le.1 h,runtimePanic,pureRun_bind]; rfl
theorem bin_quo:binA P .quo t x y (.int k a) (.int k b) = (quoO k a b).map (.int k):=by
 unfold quoO
 by_cases h:b = 0
 ·rw [if_pos h,binA_int]; simp [binOp,Op.intDiv,h,runtimePanic,pureRun_bind]; rfl
 ·rw [if_neg h,binA_quo h]; rfl
theorem bin_rem:binA P .rem t x y (.int k a) (.int k b) = (remO a b).map (.int k):=by
 unfold remO
 by_cases h:b = 0
 ·rw [if_pos h,binA_int]; simp [binOp,Op.intDiv,h,runtimePanic,pureRun_bind]; rfl
 ·rw [if_neg h,binA_rem h]; rfl
theorem bin_and:binA P .and t x y (.int k a) (.int k b) = some (.int k (andI k a b)):=binA_and
theorem bin_or:binA P .or t x y (.int k a) (.int k b) = some (.int k (orI k a b)):=binA_or
theorem bin_xor:binA P .xor t x y (.int k a) (.int k b) = some (.int k (xorI k a b)):=binA_xor
theorem bin_seq {s r:ByteArray}:binA P .eql t x y (.string s) (.string r) = some (.bool (decide (s = r))):=by
 rw [binA_seql];obtain ⟨⟨s⟩⟩:=s;obtain ⟨⟨r⟩⟩:=r
 by_cases h:s = r <;> simp [h]
theorem bin_sne {s r:ByteArray}:binA P .neq t x y (.string s) (.string r) = some (.bool (!decide (s = r))):=by
 rw [binA_sneq];obtain ⟨⟨s⟩⟩:=s;obtain ⟨⟨r⟩⟩:=r
 by_cases h:s = r <;> simp [h]
theorem bin_sadd {s r:ByteArray}:binA P .add t x y (.string s) (.string r) = (sadd s r).map .string:=by
 unfold sadd
 by_cases h:((s.size + r.size:Nat):Int) <= IntKind.i64.max
 ·rw [binA_sadd h,if_pos h]; rfl
 ·rw [if_neg h,binA_str];have h':((s.size + r.size:Nat):Int) > IntKind.i64.max:=Int.not_le.1 h;simp only [binOp,Op.stringOp,if_pos h'];rfl
theorem un_not {p:Bool}:unP M H .not t (.bool p) = some (.val (.bool !p),H):=by
 simp only [unP,on1,opA,ev0,oBs,flat_bool,if_true]; cases p <;> rfl
theorem un_neg:unP M H .neg t (.int k a) = some (.val (.int k (k.wrap (0 - a))),H):=by
 simp only [unP,on1,opA,ev0,oBs,flat_int,if_true]; rfl
theorem un_com:unP M H .xor t (.int k a) = some (.val (.int k (comI k a)),H):=by
 simp only [unP,on1,opA,ev0,oBs,flat_int,if_true]; rfl
theorem z_jb {σ:Env}:evParts σ [] = some []:=rfl
theorem z_ja {σ:Env} {i:Nat} {r:List (Nat × Operand)}:evParts σ ((i,x) :: r) = (ev σ x).bind fun v=>(evParts σ r).bind fun vs=>some ((i,v) :: vs):=rfl
theorem ext_0 {v:Value} {l:List Value}:extP M H 0 (.tuple (v :: l).toArray) = some (.val v,H):=rfl
theorem ext_1 {v w:Value} {l:List Value}:extP M H 1 (.tuple (v :: w :: l).toArray) = some (.val w,H):=rfl
theorem ext_2 {v w z:Value} {l:List Value}:extP M H 2 (.tuple (v :: w :: z :: l).toArray) = some (.val z,H):=rfl
theorem nc_ptr {a:Addr}:ncP M H (.pointer (some a)) = some (.val (.pointer (some a)),H):=rfl
def mnP (M:Mach) (H:Hp) (b:Bool) (ts:Array TypeId) (ty:TypeId) (vs:List Value):Option (R1 × Hp) :=
 if vs.all flat then (flatten1 (pureRun M.P (if b then Builtin.min_ ts ty vs.toArray else Builtin.max_ ts ty vs.toArray))).map fun v=>(.val v,H) else none
theorem c_mn {σ:Env} {nb ro:Nat} {ty:TypeId} {args:Array Operand} {ts:Array TypeId}:callA M σ nb ro H ty { callee:=.builtin .min,args:=args,argTypes:=ts } = (evs σ args.toList).bind fun vs=>mnP M H true ts ty vs:=by
 simp only [callA,mnP]; cases evs σ args.toList <;> rfl
theorem c_mx {σ:Env} {nb ro:Nat} {ty:TypeId} {args:Array Operand} {ts:Array TypeId}:callA M σ nb ro H ty { callee:=.builtin .max,args:=args,argTypes:=ts } = (evs σ args.toList).bind fun vs=>mnP M H false ts ty vs:=by
 simp only [callA,mnP]; cases evs σ args.toList <;> rfl
theorem mn_int {ts:Array TypeId} {ty:TypeId}:mnP M H true ts ty [.int k a,.int k b] = some (.val (.int k (min a b)),H):=by
 simp only [mnP,List.all_cons,List.all_nil,flat_int,Bool.and_self,if_true,Builtin.min_,List.foldlM];simp [Builtin.min2,Int.min_def]
 split <;> split <;> omega
theorem mx_int {ts:Array TypeId} {ty:TypeId}:mnP M H false ts ty [.int k a,.int k b] = some (.val (.int k (max a b)),H):=by
 simp only [mnP,List.all_cons,List.all_nil,flat_int,Bool.and_self,if_true,Builtin.max_,List.foldlM];simp [Builtin.max2,Int.max_def]
 split <;> split <;> omega
end
section
variable {M:Mach} {H H0:Hp} {r b:Nat} {t e u:TypeId}
theorem ne_len {b':Nat} {k:Blk} (h:H[b]? = some k) (hb:b' = H.length):b ≠ b':=by have:=get_lt h; omega
theorem slO_nil {α:Type} {c:α -> List Value}:SlO r H c e (none:Sl α) b:=fun _ h=>by cases h
theorem asB:∀ l:List Int,asBytes (l.flatMap (cInt .u8)) = some (l.map fun n=>UInt8.ofNat n.toNat)
 | []=>rfl
 | n :: l=>by
  simp only [List.flatMap_cons,cInt,List.cons_append,List.nil_append,asBytes];rw [asB l]; rfl
theorem cv_b2s {x:Sl Int} (hs:SlH H (cInt .u8) e x b) (ht:M.P.underlying t = some (.slice e)) (hu:M.P.underlying u = some .string) (he:M.P.underlying e = some (.int .u8)):cvP M H t u (slV x b) = some (.val (.string (strOf x)),H):=by
 cases x with
 | none=>simp only [cvP,on1,opA,ev0,oBs,slV,convA,ht,hu,he,oMs,strOf]; rfl
 | some l =>
  obtain ⟨more,hk⟩:=hs l rfl
  have:=rdN_sl (z:=1) (fun _=>rfl) hk
  rw [Nat.mul_one] at this;simp only [cvP,on1,opA,ev0,oBs,slV,convA,ht,hu,he,Option.isSome_none,bFt,if_false,this,asB,oMs,strOf,Sl.l]
theorem SlH.blk {α:Type} {c:α -> List Value} {x:Sl α} {j:Nat} (h:SlH H c e x b) (hj:j < (Sl.l x).length):∃ more,Rb H b ((Sl.l x).flatMap c ++ more) e:=by
 cases x with
 | none=>simp [Sl.l] at hj
 | some l=>exact h l rfl
theorem SlO.some {α:Type} {c:α -> List Value} {x:Sl α} {j:Nat} (h:SlO r H c e x b) (hj:j < (Sl.l x).length):r <= b /\ H[b]? = Option.some (.cells ((Sl.l x).flatMap c) e):=by
 cases x with
 | none=>simp [Sl.l] at hj
 | some l=>exact h l rfl
theorem seg_sl {α:Type} [Inhabited α] {c:α -> List Value} {z:Nat} (hz:∀ a,(c a).length = z) {x:Sl α} {j:Nat} (more:List Value) (hj:j < (Sl.l x).length):Seg ((Sl.l x).flatMap c ++ more) (j * z) (c (Sl.nth x j)):=seg_el hz _ j more hj
theorem st_sl {α:Type} [Inhabited α] {c:α -> List Value} {z o ro:Nat} {x:Sl α} {j:Nat} {v:Value} {d:List Value} {y:α} (hz:∀ a,(c a).length = z) (hs:SlO r H c e x b) (hj:j < (Sl.l x).length) (ht:szO M.P t = some d.length) (hv:v.cells.toList = d)
  (h1:∀ w ∈ d,oneB w = true) (hro:ro <= r) (hl:o + d.length <= z) (hw:wrs (c (Sl.nth x j)) o d = c y) :
  ∃ H',stP M ro H t (.pointer (some ⟨b,j * z + o,none⟩)) v = some H' /\ SlO r H' c e (Sl.put x j y) b /\ Up b H H':=by
 obtain ⟨hr,hk⟩:=hs.some hj;have hseg:=seg_sl hz [] hj;rw [List.append_nil] at hseg;have hlen:=flatMap_len hz (Sl.l x)
 have hb:j * z + z <= (Sl.l x).length * z:=by rw [<- Nat.succ_mul]; exact Nat.mul_le_mul_right z hj
 have hw2:wrs ((Sl.l x).flatMap c) (j * z + o) d = ((Sl.l x).set j y).flatMap c:=by
  rw [wrs_in hseg (by rw [hz]; exact hl),hw]
  have:=wrs_el hz y (Sl.l x) j [] hj
  rwa [List.append_nil,List.append_nil] at this
 obtain ⟨H',h2,h3,h4⟩:=st_ok (M:=M) (t:=t) (off:=j * z + o) hk ht hv h1 (nLt hro hr) (by rw [hlen]; omega) hw2;refine ⟨H',h2,fun l hl=>?_,h4⟩
 cases x with
 | none=>simp [Sl.l] at hj
 | some lx =>
  simp only [Sl.put,oMs,oIq] at hl;subst hl;exact ⟨hr,h3⟩
theorem st_sl0 {α:Type} [Inhabited α] {c:α -> List Value} {z ro:Nat} {x:Sl α} {j:Nat} {v:Value} {y:α} (hz:∀ a,(c a).length = z) (hs:SlO r H c e x b) (hj:j < (Sl.l x).length) (ht:szO M.P t = some (c y).length) (hv:v.cells.toList = c y)
  (h1:∀ w ∈ c y,oneB w = true) (hro:ro <= r):∃ H',stP M ro H t (.pointer (some ⟨b,j * z,none⟩)) v = some H' /\ SlO r H' c e (Sl.put x j y) b /\ Up b H H':=by
 have:=st_sl (M:=M) (t:=t) (o:=0) hz hs hj ht hv h1 hro (by rw [hz]; omega) (wrs_all (by rw [hz,hz]))
 rwa [Nat.add_zero] at this
end
theorem end_sl {α:Type} {P:Program} {nb b z:Nat} {rs:List ResultVar} {s:St} {e':Exit} {c:α -> List Value} {e:TypeId} {x:Sl α} {us:Nat -> List Value} (he:e' = .ret \/ e' = .normal) (hr:resOf P s.env s.hp rs = some (us b)) (hs:SlO nb s.hp c e x b) (hc:Enc c z)
  (hv:∀ f:Nat -> Nat,vmap f (fun _=>0) (fun _ q=>q) (one (us nb)) = one (us (f nb))) (ha:∀ i ∈ addrs (one (us nb)),x ≠ none /\ i = nb) (hn:x = none -> us b = us nb):kfun P nb rs (one (us nb)) (slB c e x) e' s:=by
 cases x with
 | none =>
  refine ⟨he,us nb,[],by rw [<- hn rfl]; exact hr,ends_flat ?_⟩;rw [flat_eq]
  cases h:addrs (one (us nb)) with
  | nil=>rfl
  | cons i l=>exact absurd rfl (ha i (by rw [h]; simp)).1
 | some l =>
  obtain ⟨h1,h2⟩:=hs l rfl;refine ⟨he,us b,[b],hr,ends_one h1 h2 (fun v hv=>?_) ?_ fun i hi=>Nat.le_of_eq (ha i hi).2⟩
  ·obtain ⟨a,_,hv⟩:=List.mem_flatMap.1 hv; exact hc.flat a v hv
  ·rw [hv,gOf_0]
theorem end_sl1 {α:Type} {P:Program} {nb b z:Nat} {rs:List ResultVar} {s:St} {e':Exit} {c:α -> List Value} {e:TypeId} {x:Sl α} {pre post:List Value} (he:e' = .ret \/ e' = .normal) (hs:SlO nb s.hp c e x b) (hc:Enc c z)
  (hp:∀ u ∈ pre,flat u = true) (hq:∀ u ∈ post,flat u = true) (hr:resOf P s.env s.hp rs = some (pre ++ slV x b :: post)):kfun P nb rs (one (pre ++ slV x nb :: post)) (slB c e x) e' s:=by
 have fv:∀ {l:List Value},(∀ u ∈ l,flat u = true) -> ∀ f:Nat -> Nat,l.map (vmap f (fun _=>0) (fun _ q=>q)) = l:=fun h f=>flat_map h
 have fa:∀ {l:List Value},(∀ u ∈ l,flat u = true) -> l.flatMap addrs = []:=fun h=>List.flatMap_eq_nil_iff.2 fun v hv=>by have:=h v hv; simpa [flat_eq] using this
 have hs':∀ f:Nat -> Nat,vmap f (fun _=>0) (fun _ q=>q) (slV x nb) = slV x (f nb):=fun f=>by cases x <;> simp [slV]
 have hone:∀ (f:Nat -> Nat) (l:List Value),vmap f (fun _=>0) (fun _ q=>q) (one l) = one (l.map (vmap f (fun _=>0) (fun _ q=>q))):=fun f l=>by
  match l with
  | []=>simp [one]
  | [v]=>rfl
  | u :: v :: r=>simp [one]
 have hadr:∀ l:List Value,addrs (one l) = l.flatMap addrs:=fun l=>by
  match l with
  | []=>simp [one]
  | [v]=>simp [one]
  | u :: v :: r=>simp [one]
 refine end_sl (us:=fun b=>pre ++ slV x b :: post) he hr hs hc (fun f=>?_) (fun i hi=>?_) fun hn=>by subst hn; rfl
 ·rw [hone,List.map_append,List.map_cons,fv hp,fv hq,hs']
 ·rw [hadr,List.flatMap_append,List.flatMap_cons,fa hp,fa hq] at hi
  cases x with
  | none=>simp [slV] at hi
  | some l=>simp [slV] at hi; exact ⟨by simp,hi⟩
theorem le0 {α:Type} {c:α -> List Value} {z:Nat} (h:∀ a,(c a).length = z) {a b:α}:0 + (c a).length <= (c b).length:=by rw [Nat.zero_add]; exact Nat.le_of_eq ((h a).trans (h b).symm)
theorem eqL {α:Type} {c:α -> List Value} {z:Nat} (h:∀ a,(c a).length = z) {a b:α}:(c a).length = (c b).length:=(h a).trans (h b).symm
theorem bd_zero {M:Mach} {H:Hp} {t e n:Nat} {cs:List Value} (hz:zc M.P t = some cs) (ht:M.P.underlying t = some (.array n e)) (hs:(szO M.P e).isSome = true:=by rfl):bdP M H t [] = some (.val (vAgg cs),H):=by
 obtain ⟨z,hz'⟩:=Option.isSome_iff_exists.1 hs;simp only [bdP,hz,ht,hz',oBs,fillL,oMs,vAgg]
theorem pickP_t {u v:Value}:pickP (.bool true) u v = some u:=rfl
theorem pickP_f {u v:Value}:pickP (.bool false) u v = some v:=rfl
theorem rn_k {M:Mach} {call:CallF} {nb ro:Nat} {q:Bool} {l:List AOp} {s:St} {J:St -> Prop} (J1:St -> Prop) (h:∀ J0:St -> Prop,(∀ s,J1 s -> J0 s) -> Rn M call nb ro q l s J0) (h2:∀ s1,J1 s1 -> J s1):Rn M call nb ro q l s J :=
 rn_mono (h J1 fun _ h=>h) h2
theorem up_set {H:Hp} {b:Nat} {k:Blk}:Up b H (H.set b k):=⟨by simp,fun x hx=>List.getElem?_set_ne (Ne.symm hx)⟩
theorem get_set {H:Hp} {b:Nat} {k k':Blk} (h:H[b]? = some k'):(H.set b k)[b]? = some k:=by simp [get_lt h]
theorem pt_new0 {M:Mach} (hM:MachOk M) {f:FuncId} {af:AFun} {args:List Value} {H:Hp} {v:Value} (hf:M.F f = some af) (hnt:args.length <= af.nt)
  (h:∀ c:Ctx,c.nt = af.nt -> c.nb = H.length -> c.ro = H.length -> Tk M c af.body (kfun M.P H.length af.results v []) ⟨args0 args,H,[]⟩) {ro:Nat} (hro:ro <= H.length) (hgo:isGo af.body = false:=by exact rfl):Pt M ro f args H v H []:=by
 have:=pt_new hM hf hnt h hro hgo
 rwa [List.append_nil] at this
theorem R2:type_of% (And.intro @o_alloc <| And.intro @o_box <| And.intro @o_convert <| And.intro @o_unOp <| And.intro @o_build <| And.intro @o_buildSlice <| And.intro @o_range <| And.intro @o_next <| And.intro @o_slice <| And.intro @sl_n <| And.intro @sl_s <| And.intro @r_stP <| And.intro @c_jS <| And.intro @c_mn <| And.intro @c_mx <| And.intro @mn_int <| And.intro @mx_int <| And.intro @z_jb <| And.intro @z_ja <| And.intro @ext_0 <| And.intro @ext_1 <| And.intro @ext_2 <| And.intro @nc_ptr <|
 And.intro @bin_shl <| And.intro @bin_shr <| And.intro @bin_quo <| And.intro @bin_rem <| And.intro @bin_and <| And.intro @bin_or <| And.intro @bin_xor <| And.intro @bin_seq <| And.intro @bin_sne <| And.intro @bin_sadd <| And.intro @un_not <| And.intro @un_neg @un_com) :=
 And.intro @o_alloc <| And.intro @o_box <| And.intro @o_convert <| And.intro @o_unOp <| And.intro @o_build <| And.intro @o_buildSlice <| And.intro @o_range <| And.intro @o_next <| And.intro @o_slice <| And.intro @sl_n <| And.intro @sl_s <| And.intro @r_stP <| And.intro @c_jS <| And.intro @c_mn <| And.intro @c_mx <| And.intro @mn_int <| And.intro @mx_int <| And.intro @z_jb <| And.intro @z_ja <| And.intro @ext_0 <| And.intro @ext_1 <| And.intro @ext_2 <| And.intro @nc_ptr <|
 And.intro @bin_shl <| And.intro @bin_shr <| And.intro @bin_quo <| And.intro @bin_rem <| And.intro @bin_and <| And.intro @bin_or <| And.intro @bin_xor <| And.intro @bin_seq <| And.intro @bin_sne <| And.intro @bin_sadd <| And.intro @un_not <| And.intro @un_neg @un_com
theorem R:type_of% (And.intro @RS <| And.intro @R2 <| And.intro @not_false_eq_true <| And.intro @Option.map_none.{0,0} <| And.intro @pickP_t @pickP_f):=And.intro @RS <| And.intro @R2 <| And.intro @not_false_eq_true <| And.intro @Option.map_none.{0,0} <| And.intro @pickP_t @pickP_f
def blkOf:Value -> Nat
 | .pointer (some a)=>a.block
 | .slice (some a) _ _=>a.block
 | _=>0
end Go.AM
