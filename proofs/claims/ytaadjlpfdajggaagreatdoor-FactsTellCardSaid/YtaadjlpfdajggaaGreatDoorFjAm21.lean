import Derived.Test.YtaadjlpfdajggaaGreatDoorFjAm20
import Derived.Laws.StructEq
set_option linter.unusedVariables false
set_option linter.unusedSimpArgs false
namespace Go.AM
open Go
def cInt (k:IntKind) (x:Int):List Value:=[.int k x]
def cBool (x:Bool):List Value:=[.bool x]
def cStr (x:ByteArray):List Value:=[.string x]
def cArr {α:Type} {n:Nat} (c:α -> List Value) (a:Arr α n):List Value:=a.l.flatMap c
theorem sgA {α:Type} [Inhabited α] {c:α -> List Value} {z n:Nat} (hz:∀ a,(c a).length = z) {a:Arr α n} {j:Nat} (h:j < n):Seg (cArr c a) (j * z) (c (a.nth j)):=seg_arr hz h
theorem wrA {α:Type} {c:α -> List Value} {z n:Nat} (hz:∀ a,(c a).length = z) {a:Arr α n} {j:Nat} {v:α} (h:j < n):wrs (cArr c a) (j * z) (c v) = cArr c (a.put j v):=wrs_arr hz h
instance:Inhabited ByteArray:=⟨⟨#[]⟩⟩
structure Enc {α:Type} (c:α -> List Value) (z:Nat):Prop where
 len:∀ a,(c a).length = z
 one:∀ a,∀ v ∈ c a,oneB v = true
 flat:∀ a,∀ v ∈ c a,flat v = true
 inj:∀ a b,c a = c b -> a = b
theorem enc_int {k:IntKind}:Enc (cInt k) 1:=⟨fun _=>rfl,by simp [cInt,oneB],by simp [cInt],by simp [cInt]⟩
theorem enc_bool:Enc cBool 1:=⟨fun _=>rfl,by simp [cBool,oneB],by simp [cBool],by simp [cBool]⟩
theorem enc_str:Enc cStr 1:=⟨fun _=>rfl,by simp [cStr,oneB],by simp [cStr],by simp [cStr]⟩
theorem flatMap_inj {α:Type} {c:α -> List Value} {z:Nat} (h:Enc c z):∀ l l':List α,l.length = l'.length -> l.flatMap c = l'.flatMap c -> l = l'
 | [],[],_,_=>rfl
 | [],_ :: _,h,_=>by simp at h
 | _ :: _,[],h,_=>by simp at h
 | a :: l,a' :: l',hl,hk=>by
  simp only [List.flatMap_cons] at hk
  have:=List.append_inj hk (by rw [h.len,h.len])
  rw [h.inj _ _ this.1,flatMap_inj h l l' (by simpa using hl) this.2]
theorem enc_arr {α:Type} {n:Nat} {c:α -> List Value} {z:Nat} (h:Enc c z):Enc (cArr (n:=n) c) (n * z) where
 len a:=by rw [cArr,flatMap_len h.len,a.h]
 one a v hv:=by simp only [cArr,List.mem_flatMap] at hv; obtain ⟨x,_,hx⟩:=hv; exact h.one x v hx
 flat a v hv:=by simp only [cArr,List.mem_flatMap] at hv; obtain ⟨x,_,hx⟩:=hv; exact h.flat x v hx
 inj a b hk:=by
  obtain ⟨l,hl⟩:=a; obtain ⟨l',hl'⟩:=b
  have:=flatMap_inj h l l' (by rw [hl,hl']) hk
  subst this; rfl
theorem flat_agg {α:Type} {c:α -> List Value} {z:Nat} (h:Enc c z) (a:α):flat (vAgg (c a)) = true:=by
 rw [flat_eq];simp only [vAgg,addrs_agg]
 have:(c a).flatMap addrs = []:=List.flatMap_eq_nil_iff.2 fun v hv=>by have:=h.flat a v hv; simpa [flat_eq] using this
 simp [this]
@[simp] theorem vAgg_cells {l:List Value}:(vAgg l).cells.toList = l:=by simp [vAgg,Value.cells]
theorem vAgg_inj {l l':List Value} (h:vAgg l = vAgg l'):l = l':=by
 have:=congrArg (fun v=>v.cells.toList) h; simpa using this
def fdO (P:Program) (t:TypeId) (f:Nat):Option (TypeId × Nat) :=
 match P.underlying t with
 | some (.struct fs)=>(fs[f]?).map fun fd=>(fd.type,fd.offset)
 | _=>none
def plO (P:Program) (t:TypeId):Option (List (Nat × Nat)) :=
 match P.underlying t with
 | some (.struct fs)=>placesO P fs.toList
 | _=>none
section
variable {M:Mach} {H:Hp} {t e:TypeId} {b f off z:Nat}
theorem fdO_eq {ft o:Nat} (h:fdO M.P t f = some (ft,o)):∃ fs fd,M.P.underlying t = some (.struct fs) /\ fs[f]? = some fd /\ fd.type = ft /\ fd.offset = o:=by
 unfold fdO at h
 split at h
 ·rename_i fs hfs
  cases hf:fs[f]? with
  | none=>simp [hf] at h
  | some fd=>simp [hf] at h; exact ⟨fs,fd,hfs,hf,h.1,h.2⟩
 ·cases h
theorem seg_get {cs:List Value} {v:Value} (hs:Seg cs off [v]):cs[off]? = some v:=by
 have h1:=hs.1;simp only [List.length_cons,List.length_nil] at h1
 have:((cs.drop off).take 1)[0]? = some v:=by rw [h1]; rfl
 simpa [List.getElem?_take,List.getElem?_drop] using this
theorem fa_ok {ft o:Nat} (h:fdO M.P t f = some (ft,o)) (hz:szO M.P ft = some (z + 1)):faP M H t f (.pointer (some ⟨b,off,none⟩)) = some (.val (.pointer (some ⟨b,off + o,none⟩)),H):=by
 obtain ⟨fs,fd,ht,hf,rfl,rfl⟩:=fdO_eq h;simp only [faP,on1,opA,ev0,ht,hf,hz];rfl
theorem ix_one {α:Type} [Inhabited α] {n:Nat} {c:α -> List Value} {v:α -> Value} {a:Arr α n} {k:IntKind} {i:Int} (ht:M.P.underlying t = some (.array n e)) (ha:aggO M.P e = some false) (hz:szO M.P e = some 1) (hc:∀ a,c a = [v a]) :
  idxP M H t (vAgg (cArr c a)) (.int k i) = (ck n i).map fun j=>(.val (v (a.nth j)),H):=by
 simp only [idxP,on2,opA,ht,ev0,ev1,vAgg,ck]
 by_cases h:0 <= i /\ i < (n:Int)
 ·have hs:=seg_arr (c:=c) (z:=1) (fun a=>by rw [hc]; rfl) (a:=a) (j:=i.toNat) (by omega);rw [hc] at hs
  have:=seg_get hs
  simp only [h,and_self,if_true,hz,oBs,partA,ha,cArr,this,oMs]
 ·simp only [h,if_false,Option.map_none]
theorem fill_nil {pl:Nat -> Option (Nat × Nat)} {cs:List Value}:fillL pl cs [] = some cs:=rfl
theorem fill_cons {pl:Nat -> Option (Nat × Nat)} {cs cs' c:List Value} {i o s:Nat} {v:Value} {r:List (Nat × Value)} (hp:pl i = some (o,s)) (hv:v.cells.toList = c) (hc:c.length = s) (ho:o + s <= cs.length) (hw:wrs cs o c = cs'):fillL pl cs ((i,v) :: r) = fillL pl cs' r:=by
 subst hv hw;simp only [fillL,hp,hc,ho,and_self,if_true]
theorem bd_struct {ps:List (Nat × Value)} {cs cs':List Value} {pl:List (Nat × Nat)} (hz:zc M.P t = some cs) (hp:plO M.P t = some pl) (hf:fillL (fun i=>pl[i]?) cs ps = some cs'):bdP M H t ps = some (.val (vAgg cs'),H):=by
 unfold plO at hp
 split at hp
 ·rename_i fs ht
  simp only [bdP,hz,ht,hp,hf,oBs,oMs,vAgg]
 ·cases hp
end
def EqT (P:Program) (t:TypeId) {α:Type} [DecidableEq α] (v:α -> Value) (k:Nat):Prop:=∀ d,k <= d -> ∀ x y,pureRun P (Op.equalIn d t (v x) (v y)) = some (decide (x = y))
section
variable {P:Program} {t e:TypeId} {k:Nat}
theorem pr_und {d:TypeDesc} (h:P.underlying t = some d):pureRun P (underlying t) = some d:=by
 unfold underlying; rw [pureRun_bind]; simp [h]
theorem pr_info {t:TypeId} {i:TypeInfo} (h:P.info? t = some i):pureRun P (typeInfo t) = some i:=by
 unfold typeInfo; rw [pureRun_bind]; simp [h]
theorem pr_size {n:Nat} (h:szO P t = some n):pureRun P (sizeOf t) = some n:=by
 obtain ⟨i,hi,hn⟩:=info_of_szO h;unfold sizeOf; rw [pureRun_bind,pr_info hi]; simp [hn]
theorem pr_isAgg {b:Bool} (h:aggO P t = some b):pureRun P (isAgg t) = some b:=by
 unfold aggO at h
 cases hd:P.underlying t with
 | none=>simp [hd] at h
 | some d =>
  rw [hd] at h;unfold isAgg; rw [pureRun_bind,pr_und hd]
  cases d <;> simp only [oIq] at h <;> subst h <;> simp
theorem eqt_int {k:IntKind} {k':IntKind} (h:P.underlying t = some (.int k')):EqT P t (fun x=>.int k x) 1:=fun d hd x y=>by
 obtain ⟨d,rfl⟩:∃ m,d = m + 1:=⟨d - 1,by omega⟩
 simp only [Op.equalIn]; rw [pureRun_bind,pr_und h]; simp; rfl
theorem eqt_bool (h:P.underlying t = some .bool):EqT P t (fun x=>.bool x) 1:=fun d hd x y=>by
 obtain ⟨d,rfl⟩:∃ m,d = m + 1:=⟨d - 1,by omega⟩
 simp only [Op.equalIn]; rw [pureRun_bind,pr_und h]; simp; cases x <;> cases y <;> rfl
theorem eqt_str (h:P.underlying t = some .string):EqT P t (fun x=>.string x) 1:=fun d hd x y=>by
 obtain ⟨d,rfl⟩:∃ m,d = m + 1:=⟨d - 1,by omega⟩
 simp only [Op.equalIn]; rw [pureRun_bind,pr_und h];simp only [oBs,pureRun_pure,oIq];rw [beq_toListBytes,ByteArray.toList_eq,ByteArray.toList_eq];obtain ⟨⟨x⟩⟩:=x;obtain ⟨⟨y⟩⟩:=y
 by_cases h:x = y <;> simp [h]
theorem pr_part_agg {cs c:List Value} {off:Nat} (ha:aggO P t = some true) (hz:szO P t = some c.length) (hs:Seg cs off c):pureRun P (part t cs.toArray off) = some (vAgg c):=by
 unfold part;rw [pureRun_bind,pr_isAgg ha];simp only [oBs,if_true];rw [pureRun_bind,pr_size hz];simp only [oBs,pureRun_pure,vAgg,oIq,Value.agg.injEq];apply Array.ext'
 have:=hs.1
 simp only [Array.toList_extract,List.extract_eq_drop_take'];rw [List.drop_take,Nat.add_sub_cancel_left];exact this
theorem pr_part_one {cs:List Value} {v:Value} {off:Nat} (ha:aggO P t = some false) (hs:Seg cs off [v]):pureRun P (part t cs.toArray off) = some v:=by
 unfold part;rw [pureRun_bind,pr_isAgg ha];simp [seg_get hs]
theorem pr_struct {fs:Array Field} (ht:P.underlying t = some (.struct fs)) (hp:P.stoodInHeld t = false) (d:Nat) (xs ys:Array Value):pureRun P (Op.equalIn (d + 1) t (.agg xs) (.agg ys)) = pureRun P (Op.eqFields d xs ys fs.toList):=by
 simp only [Op.equalIn];rw [pureRun_bind,pr_und ht];simp only [oBs];rw [pureRun_bind,pureRun_program];simp only [oBs,hp,bFt,if_false];rw [<- Array.forIn_toList];generalize fs.toList = fs
 clear ht
 induction fs with
 | nil=>simp [Op.eqFields,pureRun_bind]
 | cons f fs ih =>
  simp only [List.forIn_cons,Op.eqFields]
  split
  ·simp only [bind_assoc,pureRun_bind]
   congr 1; funext a
   congr 1; funext b
   congr 1; funext r
   cases r
   ·simp
   ·simpa [pureRun_bind] using ih
  ·simpa [pureRun_bind] using ih
theorem eqF_nil {d:Nat} {xs ys:Array Value}:pureRun P (Op.eqFields d xs ys []) = some true:=rfl
theorem eqF_cons {d : Nat} {xs ys : Array Value} {f : Field} {fs : List Field} {a b : Value} {r s : Bool} (hn : f.name ≠ "_") (hx : pureRun P (part f.type xs f.offset) = some a) (hy : pureRun P (part f.type ys f.offset) = some b)
  (he:pureRun P (Op.equalIn d f.type a b) = some r) (hr:pureRun P (Op.eqFields d xs ys fs) = some s):pureRun P (Op.eqFields d xs ys (f :: fs)) = some (r && s):=by
 simp only [Op.eqFields,hn,ne_eq,nFt,if_true];rw [pureRun_bind,hx]; simp only [oBs];rw [pureRun_bind,hy]; simp only [oBs];rw [pureRun_bind,he]; simp only [oBs]
 cases r
 ·simp
 ·simpa using hr
theorem pr_array {n:Nat} (ht:P.underlying t = some (.array n e)) {z:Nat} (hz:szO P e = some z) (d:Nat) (xs ys:Array Value) (g:Nat -> Bool) (h:∀ i,i < n -> ∃ a b,pureRun P (part e xs (i * z)) = some a /\ pureRun P (part e ys (i * z)) = some b /\ pureRun P (Op.equalIn d e a b) = some (g i)) :
  pureRun P (Op.equalIn (d + 1) t (.agg xs) (.agg ys)) = some ((List.range n).all g):=by
 simp only [Op.equalIn];rw [pureRun_bind,pr_und ht];simp only [oBs];rw [pureRun_bind,pr_size hz];simp only [oBs,Std.Legacy.Range.forIn_eq_forIn_range',Std.Legacy.Range.size,Nat.sub_zero,Nat.add_sub_cancel,Nat.div_one]
 have key:∀ m k,k + m <= n -> pureRun P (do
   let r <- forIn (List.range' k m 1) ((none,()):Option Bool × Unit) fun i r=>do
    let a <- part e xs (i * z)
    let b <- part e ys (i * z)
    let q <- Op.equalIn d e a b
    if (!q) = true then pure (ForInStep.done (some false,())) else pure (ForInStep.yield (none,()))
   match r.fst with
   | some a=>pure a
   | none=>pure true) = some ((List.range' k m).all g):=fun m=>by
  induction m with
  | zero=>intro k _; simp [pureRun_bind]
  | succ m ih =>
   intro k hk;obtain ⟨a,b,h1,h2,h3⟩:=h k (by omega);simp only [List.range'_succ,List.forIn_cons,bind_assoc,List.all_cons];rw [pureRun_bind,h1]; simp only [oBs];rw [pureRun_bind,h2]; simp only [oBs];rw [pureRun_bind,h3]; simp only [oBs]
   cases hg:g k
   ·simp
   ·simpa using ih (k + 1) (by omega)
 have:=key n 0 (by omega)
 rw [List.range_eq_range'];refine (congrArg (pureRun P) ?_).trans this;refine congrArg (fun f=>_ >>= f) (funext fun x=>?_);obtain ⟨o,u⟩:=x
 cases o <;> rfl
end
theorem arr_eq {α:Type} [DecidableEq α] [Inhabited α] {n:Nat} (x y:Arr α n):(List.range n).all (fun i=>decide (x.nth i = y.nth i)) = decide (x = y):=by
 obtain ⟨l,hl⟩:=x;obtain ⟨m,hm⟩:=y
 by_cases h:l = m
 ·subst h; simp
 ·have:¬ (⟨l,hl⟩:Arr α n) = ⟨m,hm⟩:=fun e=>h (by injection e)
  simp only [this,decide_false,List.all_eq_false]
  false_or_by_contra
  rename_i hc
  refine h (List.ext_getElem? fun i=>?_)
  by_cases hi:i < n
  ·have:=fun hh=>hc ⟨i,by simpa using hi,hh⟩
   simp only [decide_eq_true_eq,Decidable.not_not] at this;rw [List.getElem?_eq_getElem (by omega),List.getElem?_eq_getElem (by omega)]
   simpa [Arr.nth,List.getD_eq_getElem?_getD,List.getElem?_eq_getElem,hl,hm,hi] using this
  ·rw [List.getElem?_eq_none (by omega),List.getElem?_eq_none (by omega)]
theorem eqt_arr {P:Program} {t e:TypeId} {α:Type} [DecidableEq α] [Inhabited α] {n z k:Nat} {c:α -> List Value} {v:α -> Value} (ht:P.underlying t = some (.array n e)) (hz:szO P e = some z) (hc:Enc c z) (he:EqT P e v k)
  (hv:(aggO P e = some true /\ ∀ a,v a = vAgg (c a)) \/ (aggO P e = some false /\ ∀ a,c a = [v a])):EqT P t (fun x:Arr α n=>vAgg (cArr c x)) (k + 1):=fun d hd x y=>by
 obtain ⟨d,rfl⟩:∃ m,d = m + 1:=⟨d - 1,by omega⟩
 rw [<- arr_eq]
 refine pr_array ht hz d _ _ _ fun i hi=>⟨v (x.nth i),v (y.nth i),?_,?_,he d (by omega) _ _⟩
 ·rcases hv with ⟨ha,hv⟩ | ⟨ha,hv⟩
  ·rw [hv]; exact pr_part_agg ha (by rw [hc.len]; exact hz) (seg_arr hc.len hi)
  ·exact pr_part_one ha (by rw [<- hv]; exact seg_arr hc.len hi)
 ·rcases hv with ⟨ha,hv⟩ | ⟨ha,hv⟩
  ·rw [hv]; exact pr_part_agg ha (by rw [hc.len]; exact hz) (seg_arr hc.len hi)
  ·exact pr_part_one ha (by rw [<- hv]; exact seg_arr hc.len hi)
section
variable {P:Program} {t:TypeId} {α:Type} [DecidableEq α] {v:α -> Value} {k:Nat} {ox oy:Operand} {a b:α}
theorem eqA_agg {c:α -> List Value} {z:Nat} (hc:Enc c z) (he:EqT P t (fun x=>vAgg (c x)) k) (hk:k <= 10000) (hg:P.eqGuardType P.depth t = false):binA P .eql t ox oy (vAgg (c a)) (vAgg (c b)) = some (.bool (decide (a = b))):=by
 have h1:pureRun P (eqGuard .eql t ox oy (vAgg (c a)) (vAgg (c b))) = some ():=by
  unfold eqGuard vAgg;simp [pureRun_bind,hg]
 have h2:pureRun P (binOp .eql t (vAgg (c a)) (vAgg (c b))) = some (.bool (decide (a = b))):=by
  have:=he 10000 hk a b
  have e:binOp .eql t (vAgg (c a)) (vAgg (c b)) = (Op.equal t (vAgg (c a)) (vAgg (c b)) >>= fun b=>pure (.bool b)):=by
   simp only [vAgg,binOp]
  rw [e,pureRun_bind];unfold Op.equal Op.maxDepth;rw [this];rfl
 unfold binA;rw [if_pos (by rw [flat_agg hc,flat_agg hc]; rfl)];show flatten1 (pureRun P (eqGuard .eql t ox oy _ _ >>= fun _=>binOp .eql t _ _)) = _;rw [pureRun_bind,h1];simp only [oBs];rw [h2]; rfl
theorem neA_agg {c:α -> List Value} {z:Nat} (hc:Enc c z) (he:EqT P t (fun x=>vAgg (c x)) k) (hk:k <= 10000) (hg:P.eqGuardType P.depth t = false):binA P .neq t ox oy (vAgg (c a)) (vAgg (c b)) = some (.bool (!decide (a = b))):=by
 have h1:pureRun P (eqGuard .neq t ox oy (vAgg (c a)) (vAgg (c b))) = some ():=by
  unfold eqGuard vAgg;simp [pureRun_bind,hg]
 have h2:pureRun P (binOp .neq t (vAgg (c a)) (vAgg (c b))) = some (.bool (!decide (a = b))):=by
  have:=he 10000 hk a b
  have e:binOp .neq t (vAgg (c a)) (vAgg (c b)) = (Op.equal t (vAgg (c a)) (vAgg (c b)) >>= fun b=>pure (.bool (!b))):=by
   simp only [vAgg,binOp]
  rw [e,pureRun_bind];unfold Op.equal Op.maxDepth;rw [this];rfl
 unfold binA;rw [if_pos (by rw [flat_agg hc,flat_agg hc]; rfl)];show flatten1 (pureRun P (eqGuard .neq t ox oy _ _ >>= fun _=>binOp .neq t _ _)) = _;rw [pureRun_bind,h1];simp only [oBs];rw [h2]; rfl
end
end Go.AM
