import Derived.Test.YtaadjlpfdajggaaGreatDoorFjAm13
import Derived.Lib.Strings
set_option linter.unusedVariables false
set_option linter.unusedSimpArgs false
namespace Go.AM
open Go
@[simp] theorem flat_int (k:IntKind) (n:Int):flat (.int k n) = true:=rfl
@[simp] theorem flat_bool (b:Bool):flat (.bool b) = true:=rfl
@[simp] theorem flat_string (s:ByteArray):flat (.string s) = true:=rfl
@[simp] theorem flatten1_some_int (k:IntKind) (n:Int):flatten1 (some (.int k n)) = some (.int k n):=rfl
@[simp] theorem flatten1_some_bool (b:Bool):flatten1 (some (.bool b)) = some (.bool b):=rfl
@[simp] theorem flatten1_some_string (s:ByteArray):flatten1 (some (.string s)) = some (.string s):=rfl
section
variable {P:Program} {t:TypeId} {x y:Operand} {k:IntKind} {a b:Int}
theorem binA_int {op:BinOp}:binA P op t x y (.int k a) (.int k b) = flatten1 (pureRun P (binOp op t (.int k a) (.int k b))):=by
 have h:pureRun P (eqGuard op t x y (.int k a) (.int k b)) = some ():=by cases op <;> rfl
 unfold binA;rw [if_pos (by rfl)];show flatten1 (pureRun P (eqGuard op t x y _ _ >>= fun _=>binOp op t _ _)) = _;rw [pureRun_bind,h]; rfl
theorem binA_intS {op:BinOp} {k':IntKind} (hop:op = .shl \/ op = .shr):binA P op t x y (.int k a) (.int k' b) = flatten1 (pureRun P (Op.shift op k a k' b)):=by
 have h:pureRun P (eqGuard op t x y (.int k a) (.int k' b)) = some ():=by rcases hop with rfl | rfl <;> rfl
 unfold binA;rw [if_pos (by rfl)];show flatten1 (pureRun P (eqGuard op t x y _ _ >>= fun _=>binOp op t _ _)) = _;rw [pureRun_bind,h]
 rcases hop with rfl | rfl <;> rfl
@[simp] theorem binA_add:binA P .add t x y (.int k a) (.int k b) = some (.int k (k.wrap (a + b))):=by rw [binA_int]; simp [binOp,Op.intArith]
@[simp] theorem binA_sub:binA P .sub t x y (.int k a) (.int k b) = some (.int k (k.wrap (a - b))):=by rw [binA_int]; simp [binOp,Op.intArith]
@[simp] theorem binA_mul:binA P .mul t x y (.int k a) (.int k b) = some (.int k (k.wrap (a * b))):=by rw [binA_int]; simp [binOp,Op.intArith]
theorem binA_quo (h:b ≠ 0):binA P .quo t x y (.int k a) (.int k b) = some (.int k (k.wrap (a.tdiv b))):=by rw [binA_int]; simp [binOp,Op.intDiv,h]
theorem binA_rem (h:b ≠ 0):binA P .rem t x y (.int k a) (.int k b) = some (.int k (a.tmod b)):=by rw [binA_int]; simp [binOp,Op.intDiv,h]
@[simp] theorem binA_eql:binA P .eql t x y (.int k a) (.int k b) = some (.bool (decide (a = b))):=by rw [binA_int]; simp [binOp,Op.intCmp]; rfl
@[simp] theorem binA_neq:binA P .neq t x y (.int k a) (.int k b) = some (.bool (!decide (a = b))):=by rw [binA_int]; simp [binOp,Op.intCmp]; rfl
@[simp] theorem binA_lss:binA P .lss t x y (.int k a) (.int k b) = some (.bool (decide (a < b))):=by rw [binA_int]; simp [binOp,Op.intCmp]
@[simp] theorem binA_leq:binA P .leq t x y (.int k a) (.int k b) = some (.bool (decide (a <= b))):=by rw [binA_int]; simp [binOp,Op.intCmp]
@[simp] theorem binA_gtr:binA P .gtr t x y (.int k a) (.int k b) = some (.bool (decide (b < a))):=by rw [binA_int]; simp [binOp,Op.intCmp]
@[simp] theorem binA_geq:binA P .geq t x y (.int k a) (.int k b) = some (.bool (decide (b <= a))):=by rw [binA_int]; simp [binOp,Op.intCmp]
@[simp] theorem binA_and:binA P .and t x y (.int k a) (.int k b) = some (.int k (k.wrap (BitVec.ofInt k.bits a &&& BitVec.ofInt k.bits b).toNat)):=by rw [binA_int]; simp [binOp,Op.intBits]
@[simp] theorem binA_or:binA P .or t x y (.int k a) (.int k b) = some (.int k (k.wrap (BitVec.ofInt k.bits a ||| BitVec.ofInt k.bits b).toNat)):=by rw [binA_int]; simp [binOp,Op.intBits]
@[simp] theorem binA_xor:binA P .xor t x y (.int k a) (.int k b) = some (.int k (k.wrap (BitVec.ofInt k.bits a ^^^ BitVec.ofInt k.bits b).toNat)):=by rw [binA_int]; simp [binOp,Op.intBits]
theorem binA_shl {k':IntKind} (h:0 <= b):binA P .shl t x y (.int k a) (.int k' b) = some (.int k (k.wrap (a * 2 ^ min b.toNat k.bits))):=by
 rw [binA_intS (.inl rfl)]; simp [Op.shift,Int.not_lt.2 h]
theorem binA_shr {k':IntKind} (h:0 <= b):binA P .shr t x y (.int k a) (.int k' b) = some (.int k (a.fdiv (2 ^ min b.toNat k.bits))):=by
 rw [binA_intS (.inr rfl)]; simp [Op.shift,Int.not_lt.2 h]
theorem binA_str {op:BinOp} {s u:ByteArray}:binA P op t x y (.string s) (.string u) = flatten1 (pureRun P (binOp op t (.string s) (.string u))):=by
 have h:pureRun P (eqGuard op t x y (.string s) (.string u)) = some ():=by cases op <;> rfl
 unfold binA;rw [if_pos (by rfl)];show flatten1 (pureRun P (eqGuard op t x y _ _ >>= fun _=>binOp op t _ _)) = _;rw [pureRun_bind,h]; rfl
theorem binA_sadd {s u:ByteArray} (h:((s.size + u.size:Nat):Int) <= IntKind.i64.max):binA P .add t x y (.string s) (.string u) = some (.string (s ++ u)):=by
 rw [binA_str];have h':¬ (((s.size + u.size:Nat):Int) > IntKind.i64.max):=Int.not_lt.2 h;simp only [binOp,Op.stringOp,if_neg h'];rfl
@[simp] theorem binA_seql {s u:ByteArray}:binA P .eql t x y (.string s) (.string u) = some (.bool (s.data.toList == u.data.toList)):=by
 rw [binA_str]; simp [binOp,Op.stringOp,Lib.toList_data]
@[simp] theorem binA_sneq {s u:ByteArray}:binA P .neq t x y (.string s) (.string u) = some (.bool (!(s.data.toList == u.data.toList))):=by
 rw [binA_str]; simp [binOp,Op.stringOp,Lib.toList_data]
end
theorem bind_first {α β:Type} {a a':Option α} {f:α -> Option β} (h:a = a'):a.bind f = a'.bind f:=by rw [h]
theorem map_first {α β:Type} {a a':Option α} {f:α -> β} (h:a = a'):a.map f = a'.map f:=by rw [h]
def fin (call:CallF) (nb ro:Nat) (d:Option Nat) (σ:Env) (dd:List Nat):R1 × Hp -> Option St
 | (.val v,H)=>some ⟨put d v σ,H,dd⟩
 | (.enter f args,H)=>(call ro f args H).map fun r=>⟨put d r.1 σ,r.2.1,r.2.2.filter (· < nb) ++ dd⟩
def gsel (g:Option Value) (want:Bool) (x y:Option St):Option St :=
 match g with
 | some (.bool b)=>if b = want then x else y
 | some _=>y
 | none=>none
section
variable {M:Mach} {call:CallF} {fuel nb ro:Nat} {q:Bool} {s:St} {σ:Env} {H:Hp} {dd:List Nat} {d:Option Nat} {ty t:TypeId} {gd:Option (Nat × Bool)} {x y z:Operand} {o:AOp} {r:List AOp}
theorem s_nil:stepsA M call nb ro q [] s = some s:=rfl
theorem s_cons:stepsA M call nb ro q (o :: r) s = (step1 M call nb ro q o s).bind (stepsA M call nb ro q r):=rfl
theorem s_plain {op:Op}:step1 M call nb ro q ⟨d,op,ty,none⟩ s = run1 M call nb (if q && !isW op then s.hp.length else ro) ⟨d,op,ty,none⟩ s:=rfl
theorem s_guard {op:Op} {g:Nat} {w:Bool}:step1 M call nb ro q ⟨d,op,ty,some (g,w)⟩ s =
  gsel (look s.env g) w (run1 M call nb (if q && !isW op then s.hp.length else ro) ⟨d,op,ty,some (g,w)⟩ s) (some ⟨put d undef s.env,s.hp,s.dirty⟩):=by
 simp only [step1,gsel]; rfl
theorem f_val {v:Value}:fin call nb ro d σ dd (.val v,H) = some ⟨put d v σ,H,dd⟩:=rfl
theorem f_enter {f:FuncId} {args:List Value}:fin call nb ro d σ dd (.enter f args,H) = (call ro f args H).map fun r=>⟨put d r.1 σ,r.2.1,r.2.2.filter (· < nb) ++ dd⟩:=rfl
theorem convA_int {P:Program} {u:TypeId} {k k':IntKind} {n:Int} (ht:P.underlying t = some (.int k)) (hu:P.underlying u = some (.int k')) :
  convA P H t u (.int k n) = some (.int k' (k'.wrap n),H):=by
 unfold convA;simp only [ht,hu,flat_int,if_true]
 have:pureRun P (convert t u (.int k n)) = some (.int k' (k'.wrap n)):=by
  unfold convert;simp only [pureRun_bind,underlying,pureRun_program,oBs,ht,hu,pureRun_pure];rfl
 rw [this]; rfl
theorem wrap_u8 {n:Int} (h:0 <= n) (h':n < 256):IntKind.u8.wrap n = n:=by
 simp only [IntKind.wrap,IntKind.signed,IntKind.bits,Bool.false_and,bFt,if_false];exact Int.emod_eq_of_lt h (by simpa using h')
theorem wrap_i64 {n:Int} (h:-9223372036854775808 <= n) (h':n < 9223372036854775808):IntKind.i64.wrap n = n:=by
 show (if (true && decide (n % 18446744073709551616 ≥ 9223372036854775808)) = true then n % 18446744073709551616 - 18446744073709551616 else n % 18446744073709551616) = n;simp only [Bool.true_and,decide_eq_true_eq]
 split <;> omega
def notStore:Op -> Bool
 | .store ..=>false
 | _=>true
theorem r_gen {op:Op} (h:notStore op = true):run1 M call nb ro ⟨d,op,ty,gd⟩ ⟨σ,H,dd⟩ = (opA M σ nb ro H ty op).bind (fin call nb ro d σ dd):=by
 have key:(opA M σ nb ro H ty op).bind (fun (r,H) =>
   match r with
   | .val v=>some (⟨put d v σ,H,dd⟩:St)
   | .enter f args=>(call ro f args H).map fun (v,H,e)=>⟨put d v σ,H,e.filter (· < nb) ++ dd⟩) = (opA M σ nb ro H ty op).bind (fin call nb ro d σ dd):=by
  congr 1
  funext r
  obtain ⟨r,H'⟩:=r
  cases r <;> rfl
 cases op <;> first | (exact key) | (simp [notStore] at h)
theorem r_store:run1 M call nb ro ⟨d,.store t x y,ty,gd⟩ ⟨σ,H,dd⟩ = (ev σ x).bind fun p=>(ev σ y).bind fun v =>
  match p with
  | .pointer (some a)=>(stVar M.P ro H t a v).map fun H=>⟨put d undef σ,H,soil nb a.block v.cells.toList dd⟩
  | _=>none:=by
 simp only [run1]
 cases ev σ x with
 | none=>rfl
 | some p =>
  cases ev σ y with
  | none=>cases p with
   | pointer a=>cases a <;> rfl
   | _=>rfl
  | some v=>cases p with
   | pointer a=>cases a <;> rfl
   | _=>rfl
theorem g_move {x:Operand}:run1 M call nb ro ⟨d,.move x,ty,gd⟩ ⟨σ,H,dd⟩ = (opA M σ nb ro H ty (.move x)).bind (fin call nb ro d σ dd):=r_gen rfl
theorem g_assign {x:Operand}:run1 M call nb ro ⟨d,.assign x,ty,gd⟩ ⟨σ,H,dd⟩ = (opA M σ nb ro H ty (.assign x)).bind (fin call nb ro d σ dd):=r_gen rfl
theorem g_pick {x y z:Operand}:run1 M call nb ro ⟨d,.pick x y z,ty,gd⟩ ⟨σ,H,dd⟩ = (opA M σ nb ro H ty (.pick x y z)).bind (fin call nb ro d σ dd):=r_gen rfl
theorem g_alloc {t:TypeId}:run1 M call nb ro ⟨d,.alloc t,ty,gd⟩ ⟨σ,H,dd⟩ = (opA M σ nb ro H ty (.alloc t)).bind (fin call nb ro d σ dd):=r_gen rfl
theorem g_box {t:TypeId} {x:Operand}:run1 M call nb ro ⟨d,.box t x,ty,gd⟩ ⟨σ,H,dd⟩ = (opA M σ nb ro H ty (.box t x)).bind (fin call nb ro d σ dd):=r_gen rfl
theorem g_build {t:TypeId} {l:Array (Nat × Operand)}:run1 M call nb ro ⟨d,.build t l,ty,gd⟩ ⟨σ,H,dd⟩ = (opA M σ nb ro H ty (.build t l)).bind (fin call nb ro d σ dd):=r_gen rfl
theorem g_buildSlice {t:TypeId} {n:Nat} {l:Array (Nat × Operand)}:run1 M call nb ro ⟨d,.buildSlice t n l,ty,gd⟩ ⟨σ,H,dd⟩ = (opA M σ nb ro H ty (.buildSlice t n l)).bind (fin call nb ro d σ dd):=r_gen rfl
theorem g_load {t:TypeId} {x:Operand}:run1 M call nb ro ⟨d,.load t x,ty,gd⟩ ⟨σ,H,dd⟩ = (opA M σ nb ro H ty (.load t x)).bind (fin call nb ro d σ dd):=r_gen rfl
theorem g_nilCheck {x:Operand}:run1 M call nb ro ⟨d,.nilCheck x,ty,gd⟩ ⟨σ,H,dd⟩ = (opA M σ nb ro H ty (.nilCheck x)).bind (fin call nb ro d σ dd):=r_gen rfl
theorem g_binOp {op:BinOp} {t u:TypeId} {x y:Operand}:run1 M call nb ro ⟨d,.binOp op t x y u,ty,gd⟩ ⟨σ,H,dd⟩ = (opA M σ nb ro H ty (.binOp op t x y u)).bind (fin call nb ro d σ dd):=r_gen rfl
theorem g_unOp {op:UnOp} {t:TypeId} {x:Operand}:run1 M call nb ro ⟨d,.unOp op t x,ty,gd⟩ ⟨σ,H,dd⟩ = (opA M σ nb ro H ty (.unOp op t x)).bind (fin call nb ro d σ dd):=r_gen rfl
theorem g_convert {t u:TypeId} {x:Operand}:run1 M call nb ro ⟨d,.convert t u x,ty,gd⟩ ⟨σ,H,dd⟩ = (opA M σ nb ro H ty (.convert t u x)).bind (fin call nb ro d σ dd):=r_gen rfl
theorem g_makeInterface {t:TypeId} {x:Operand}:run1 M call nb ro ⟨d,.makeInterface t x,ty,gd⟩ ⟨σ,H,dd⟩ = (opA M σ nb ro H ty (.makeInterface t x)).bind (fin call nb ro d σ dd):=r_gen rfl
theorem g_makeFunc {f:Fn} {a b:Array Operand}:run1 M call nb ro ⟨d,.makeFunc f a b,ty,gd⟩ ⟨σ,H,dd⟩ = (opA M σ nb ro H ty (.makeFunc f a b)).bind (fin call nb ro d σ dd):=r_gen rfl
theorem g_makeSlice {t:TypeId} {x y:Operand}:run1 M call nb ro ⟨d,.makeSlice t x y,ty,gd⟩ ⟨σ,H,dd⟩ = (opA M σ nb ro H ty (.makeSlice t x y)).bind (fin call nb ro d σ dd):=r_gen rfl
theorem g_slice {t:TypeId} {x:Operand} {a b c:Option Operand}:run1 M call nb ro ⟨d,.slice t x a b c,ty,gd⟩ ⟨σ,H,dd⟩ = (opA M σ nb ro H ty (.slice t x a b c)).bind (fin call nb ro d σ dd):=r_gen rfl
theorem g_fieldAddr {t:TypeId} {x:Operand} {n:Nat}:run1 M call nb ro ⟨d,.fieldAddr t x n,ty,gd⟩ ⟨σ,H,dd⟩ = (opA M σ nb ro H ty (.fieldAddr t x n)).bind (fin call nb ro d σ dd):=r_gen rfl
theorem g_field {t:TypeId} {x:Operand} {n:Nat}:run1 M call nb ro ⟨d,.field t x n,ty,gd⟩ ⟨σ,H,dd⟩ = (opA M σ nb ro H ty (.field t x n)).bind (fin call nb ro d σ dd):=r_gen rfl
theorem g_indexAddr {t:TypeId} {x y:Operand}:run1 M call nb ro ⟨d,.indexAddr t x y,ty,gd⟩ ⟨σ,H,dd⟩ = (opA M σ nb ro H ty (.indexAddr t x y)).bind (fin call nb ro d σ dd):=r_gen rfl
theorem g_index {t:TypeId} {x y:Operand}:run1 M call nb ro ⟨d,.index t x y,ty,gd⟩ ⟨σ,H,dd⟩ = (opA M σ nb ro H ty (.index t x y)).bind (fin call nb ro d σ dd):=r_gen rfl
theorem g_range {t:TypeId} {x:Operand}:run1 M call nb ro ⟨d,.range t x,ty,gd⟩ ⟨σ,H,dd⟩ = (opA M σ nb ro H ty (.range t x)).bind (fin call nb ro d σ dd):=r_gen rfl
theorem g_next {x:Operand} {b:Bool}:run1 M call nb ro ⟨d,.next x b,ty,gd⟩ ⟨σ,H,dd⟩ = (opA M σ nb ro H ty (.next x b)).bind (fin call nb ro d σ dd):=r_gen rfl
theorem g_typeAssert {x:Operand} {t u:TypeId} {b:Bool}:run1 M call nb ro ⟨d,.typeAssert x t u b,ty,gd⟩ ⟨σ,H,dd⟩ = (opA M σ nb ro H ty (.typeAssert x t u b)).bind (fin call nb ro d σ dd):=r_gen rfl
theorem g_extract {x:Operand} {n:Nat}:run1 M call nb ro ⟨d,.extract x n,ty,gd⟩ ⟨σ,H,dd⟩ = (opA M σ nb ro H ty (.extract x n)).bind (fin call nb ro d σ dd):=r_gen rfl
theorem g_call {c:Call}:run1 M call nb ro ⟨d,.call c,ty,gd⟩ ⟨σ,H,dd⟩ = (opA M σ nb ro H ty (.call c)).bind (fin call nb ro d σ dd):=r_gen rfl
theorem c_len:callA M σ nb ro H ty { callee:=.builtin .len,args:=#[x],argTypes:=#[t] } = (ev σ x).bind fun v=>(lenA M.P t v).map fun v=>(.val v,H):=by
 simp only [callA]
 cases h:ev σ x with
 | none=>simp [evs,h]
 | some v=>simp [evs,h]
theorem c_fun {f:FuncId} {args:Array Operand} {ts:Array TypeId} {af:AFun} (hf:M.F f = some af) :
  callA M σ nb ro H ty { callee:=.value (.func f),args:=args,argTypes:=ts } = (evs σ args.toList).map fun vs=>(.enter f vs,H):=by
 simp only [callA,ev,hf]
 cases evs σ args.toList <;> simp
end
end Go.AM
