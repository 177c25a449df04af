import Derived.Orders
import Derived.LoopN
import Derived.Scope
import Derived.KernelRfl
set_option linter.unusedVariables false
namespace Go.AM
open Go
theorem oBs:type_of% @Option.bind_some.{0,0}:=@Option.bind_some.{0,0}
theorem oIq:type_of% @Option.some.injEq.{0}:=@Option.some.injEq.{0}
theorem oBe:type_of% @Option.bind_eq_some_iff.{0,0}:=@Option.bind_eq_some_iff.{0,0}
theorem oMe:type_of% @Option.map_eq_some_iff.{0,0}:=@Option.map_eq_some_iff.{0,0}
theorem lAs:type_of% @List.append_assoc.{0}:=@List.append_assoc.{0}
theorem oIj:type_of% @Option.some.inj.{0}:=@Option.some.inj.{0}
theorem pIq:type_of% @Prod.mk.injEq.{0,0}:=@Prod.mk.injEq.{0,0}
theorem nLt:type_of% @Nat.le_trans:=@Nat.le_trans
theorem lLa:type_of% @List.length_append.{0}:=@List.length_append.{0}
theorem bFt:type_of% @Bool.false_eq_true:=@Bool.false_eq_true
theorem nLb:type_of% @Nat.le_of_ble_eq_true:=@Nat.le_of_ble_eq_true
theorem lCi:type_of% @List.cons.injEq.{0}:=@List.cons.injEq.{0}
theorem nFt:type_of% @not_false_eq_true:=@not_false_eq_true
theorem oMs:type_of% @Option.map_some.{0,0}:=@Option.map_some.{0,0}
theorem nSa:type_of% @Nat.sub_add_cancel:=@Nat.sub_add_cancel
theorem lGl:type_of% @List.getElem?_append_left.{0}:=@List.getElem?_append_left.{0}
theorem lGr:type_of% @List.getElem?_append_right.{0}:=@List.getElem?_append_right.{0}
theorem lGs:type_of% @List.getElem?_eq_some_iff.{0}:=@List.getElem?_eq_some_iff.{0}
abbrev pT (b:Nat):Value:=.pointer (some ⟨b,0,none⟩)
def pureRun {α:Type} (P:Program):Sem α -> Option α
  | .pure a=>some a
  | .program k=>pureRun P (k P)
  | .mark _ k=>pureRun P k
  | _=>none
def fnMap (fb:Nat -> Nat):Fn -> Fn
  | .yield l=>.yield (fb l)
  | f=>f
def vmap (fb fo:Nat -> Nat) (fs:Nat -> Nat -> Nat):Value -> Value
  | .pointer (some a)=>.pointer (some ⟨fb a.block,a.off + fo a.block,a.spot⟩)
  | .slice (some a) n q=>.slice (some ⟨fb a.block,a.off + fo a.block,a.spot⟩) n (fs a.block q)
  | .map (some r)=>.map (some (fb r))
  | .chan (some r)=>.chan (some (fb r))
  | .func fn f c=>.func (fnMap fb fn) (f.attach.map fun ⟨x,_⟩=>vmap fb fo fs x) (c.attach.map fun ⟨x,_⟩=>vmap fb fo fs x)
  | .iface t v=>.iface t (vmap fb fo fs v)
  | .agg cs=>.agg (cs.attach.map fun ⟨x,_⟩=>vmap fb fo fs x)
  | .tuple vs=>.tuple (vs.attach.map fun ⟨x,_⟩=>vmap fb fo fs x)
  | v=>v
termination_by v=>SizeOf.sizeOf v
def fnAddrs:Fn -> List Nat
  | .yield l=>[l]
  | _=>[]
def addrs:Value -> List Nat
  | .pointer (some a)=>[a.block]
  | .slice (some a) _ _=>[a.block]
  | .map (some r)=>[r]
  | .chan (some r)=>[r]
  | .func fn f c=>fnAddrs fn ++ (f.attach.toList.flatMap fun ⟨x,_⟩=>addrs x) ++ (c.attach.toList.flatMap fun ⟨x,_⟩=>addrs x)
  | .iface _ v=>addrs v
  | .agg cs=>cs.attach.toList.flatMap fun ⟨x,_⟩=>addrs x
  | .tuple vs=>vs.attach.toList.flatMap fun ⟨x,_⟩=>addrs x
  | _=>[]
termination_by v=>SizeOf.sizeOf v
def flat0:Value -> Bool
  | .bool _ | .int _ _ | .float _ _ | .complex _ _ _ | .string _ | .pointer none | .slice none _ _ | .map none | .chan none | .nilFunc | .nilIface=>true
  | _=>false
def flat1:Value -> Bool
  | .agg cs=>cs.toList.all flat0
  | v=>flat0 v
def flatQ:Value -> Bool
  | .tuple vs=>vs.toList.all flat1
  | .iface _ v=>flat1 v
  | v=>flat1 v
def flat (v:Value):Bool:=flatQ v || (addrs v).isEmpty
def addrsQ (v:Value):List Nat :=
  if flatQ v then [] else
  match v with
  | .pointer (some a)=>[a.block]
  | .slice (some a) _ _=>[a.block]
  | v=>addrs v
inductive Blk where
  | cells (c:List Value) (e:TypeId)
  | iter (s:ByteArray) (pos:Nat)
  | tab (c:List Value)
  | view (c:List Value) (e:TypeId)
  | dead
  deriving Inhabited
abbrev Hp:=List Blk
abbrev Env:=List (Nat × Value)
def look:Env -> Nat -> Option Value
  | [],_=>none
  | (t,v) :: σ,s=>if t = s then some v else look σ s
structure St where
  env:Env
  hp:Hp
  dirty:List Nat
def put (d:Option Nat) (v:Value) (σ:Env):Env :=
  match d with
  | some t=>(t,v) :: σ
  | none=>σ
def szO (P:Program) (t:TypeId):Option Nat:=(P.info? t).map (·.size)
def bytesO (P:Program) (t:TypeId):Option Nat:=(P.info? t).map (·.bytes)
def aggO (P:Program) (t:TypeId):Option Bool :=
  match P.underlying t with
  | some (.struct _)=>some true
  | some (.array _ _)=>some true
  | some _=>some false
  | none=>none
def oneB:Value -> Bool
  | .agg _ | .tuple _=>false
  | _=>true
def zc (P:Program) (t:TypeId):Option (List Value) :=
  match (P.info? t).bind (·.zero) with
  | some z=>if z.cells.toList.all (fun c=>oneB c && flat c) && (szO P t == some z.cells.toList.length) then some z.cells.toList else none
  | none=>none
def wrs (cs:List Value) (o:Nat) (vs:List Value):List Value:=cs.take o ++ vs ++ cs.drop (o + vs.length)
def rdN (H:Hp) (b o n:Nat):Option (List Value) :=
  match H[b]? with
  | some (.cells cs _)=>if o + n <= cs.length then some ((cs.drop o).take n) else none
  | some (.view cs _)=>if o + n <= cs.length then some ((cs.drop o).take n) else none
  | _=>none
def ldVar (P:Program) (H:Hp) (t:TypeId) (a:Addr):Option Value :=
  if a.spot.isSome then none else
  match H[a.block]? with
  | some (.cells cs _) =>
    match aggO P t,szO P t with
    | some true,some n=>if a.off + n <= cs.length then some (.agg ((cs.drop a.off).take n).toArray) else none
    | some false,_=>cs[a.off]?
    | _,_=>none
  | some (.tab cs) =>
    match aggO P t with
    | some false=>cs[a.off]?
    | _=>none
  | some (.view cs _) =>
    match aggO P t,szO P t with
    | some true,some n=>if a.off + n <= cs.length then some (.agg ((cs.drop a.off).take n).toArray) else none
    | some false,_=>cs[a.off]?
    | _,_=>none
  | _=>none
def wrB (H:Hp) (ro b o:Nat) (vs:List Value):Option Hp :=
  if vs.all oneB && decide (ro <= b) then
    match H[b]? with
    | some (.cells cs e)=>if o + vs.length <= cs.length then some (H.set b (.cells (wrs cs o vs) e)) else none
    | _=>none
  else none
def stVar (P:Program) (ro:Nat) (H:Hp) (t:TypeId) (a:Addr) (v:Value):Option Hp :=
  if a.spot.isSome then none else
  if szO P t = some v.cells.toList.length then wrB H ro a.block a.off v.cells.toList else none
def soil (nb b:Nat) (vs:List Value) (d:List Nat):List Nat :=
  if b < nb /\ ¬ vs.all flat = true then b :: d else d
def fillL (place:Nat -> Option (Nat × Nat)) (cs:List Value):List (Nat × Value) -> Option (List Value)
  | []=>some cs
  | (i,v) :: rest =>
    match place i with
    | none=>none
    | some (off,size) =>
      if v.cells.toList.length = size /\ off + size <= cs.length then fillL place (wrs cs off v.cells.toList) rest else none
def partA (P:Program) (t:TypeId) (cs:List Value) (off:Nat):Option Value :=
  match aggO P t,szO P t with
  | some true,some n=>some (.agg ((cs.drop off).take n).toArray)
  | some false,_=>cs[off]?
  | _,_=>none
def placesO (P:Program):List Field -> Option (List (Nat × Nat))
  | []=>some []
  | f :: r=>(szO P f.type).bind fun n=>(placesO P r).map ((f.offset,n) :: ·)
def asBytes:List Value -> Option (List UInt8)
  | []=>some []
  | .int .u8 n :: r=>(asBytes r).map (UInt8.ofNat n.toNat :: ·)
  | _=>none
def byteCells (s:ByteArray):List Value:=s.data.toList.map fun b=>.int .u8 b.toNat
inductive R1 where
  | val (v:Value)
  | enter (f:FuncId) (args:List Value)
structure AOp where
  dst:Option Nat
  op:Op
  type:TypeId
  guard:Option (Nat × Bool)
inductive AC where
  | skip
  | ret
  | ops (quiet:Bool) (l:List AOp)
  | late (quiet:Bool) (t:TypeId) (ta:Nat) (x:Operand) (l:List AOp)
  | opsP (l:List AOp)
  | held (p1 p2:List Nat) (l1 l2:List AOp)
  | opsL (ls:List Nat) (k:Nat) (quiet:Bool) (l:List AOp)
  | goto (l:Nat)
  | scopeJ (l:Nat) (a b:AC)
  | seq (a b:AC)
  | cond (c:Operand) (a b:AC)
  | block (id:Nat) (a:AC)
  | loop (live:List Nat) (a:AC)
  | exit (id:Nat)
  | scope (a:AC)
structure AFun where
  nt:Nat
  results:List ResultVar
  body:AC
structure Mach where
  P:Program
  F:FuncId -> Option AFun
  X:FuncId -> Option (List Value -> Option Value)
def ev (σ:Env):Operand -> Option Value
  | .tmp t=>look σ t
  | .const v=>some v
  | .global g=>some (.pointer (some ⟨g,0,none⟩))
  | .func f=>some (.func (.func f) #[] #[])
def evs (σ:Env):List Operand -> Option (List Value)
  | []=>some []
  | x :: r=>(ev σ x).bind fun v=>(evs σ r).bind fun vs=>some (v :: vs)
def evParts (σ:Env):List (Nat × Operand) -> Option (List (Nat × Value))
  | []=>some []
  | (i,x) :: r=>(ev σ x).bind fun v=>(evParts σ r).bind fun vs=>some ((i,v) :: vs)
def flatten1 (o:Option Value):Option Value:=o.bind fun v=>if flat v then some v else none
def binA (P:Program) (op:BinOp) (t:TypeId) (x y:Operand) (a b:Value):Option Value :=
  if flat a && flat b then flatten1 (pureRun P (do eqGuard op t x y a b; binOp op t a b)) else
  match op,P.underlying t,a,b with
  | .eql,some (.pointer _),.pointer none,.pointer b=>some (.bool b.isNone)
  | .eql,some (.pointer _),.pointer (some _),.pointer none=>some (.bool false)
  | .neq,some (.pointer _),.pointer none,.pointer b=>some (.bool !b.isNone)
  | .neq,some (.pointer _),.pointer (some _),.pointer none=>some (.bool true)
  | .eql,some (.slice _),.slice none _ _,.slice b _ _=>some (.bool b.isNone)
  | .eql,some (.slice _),.slice (some _) _ _,.slice none _ _=>some (.bool false)
  | .neq,some (.slice _),.slice none _ _,.slice b _ _=>some (.bool !b.isNone)
  | .neq,some (.slice _),.slice (some _) _ _,.slice none _ _=>some (.bool true)
  | _,_,_,_=>none
def convA (P:Program) (H:Hp) (src dst:TypeId) (v:Value):Option (Value × Hp) :=
  match P.underlying src,P.underlying dst,v with
  | some .string,some (.slice e),.string s =>
    match P.underlying e with
    | some (.int .u8)=>if szO P e = some 1 then some (.slice (some ⟨H.length,0,none⟩) s.size 0,H ++ [.cells (byteCells s) e]) else none
    | _=>none
  | some (.slice e),some .string,.slice (some a) n _ =>
    match P.underlying e with
    | some (.int .u8)=>if a.spot.isSome then none else ((rdN H a.block a.off n).bind asBytes).map fun l=>(.string ⟨l.toArray⟩,H)
    | _=>none
  | some (.slice e),some .string,.slice none _ _ =>
    match P.underlying e with
    | some (.int .u8)=>some (.string .empty,H)
    | _=>none
  | some (.slice _),_,_=>none
  | some _,_,v=>if flat v then (flatten1 (pureRun P (convert src dst v))).map (·,H) else none
  | none,_,_=>none
def lenA (P:Program) (t:TypeId) (x:Value):Option Value :=
  match P.underlying t,x with
  | some .string,.string s=>some (.int .i64 s.size)
  | some (.array n _),_=>some (.int .i64 n)
  | some (.slice _),.slice _ n _=>some (.int .i64 n)
  | _,_=>none
def srcCells (H:Hp) (size:Nat):Value -> Option (List Value)
  | .slice (some a) n _=>if a.spot.isSome then none else rdN H a.block a.off (n * size)
  | .slice none n _=>if n = 0 then some [] else none
  | .string s=>some (byteCells s)
  | _=>none
def lenV:Value -> Nat
  | .slice _ n _=>n
  | .string s=>s.size
  | _=>0
def rowish:TypeDesc -> Bool
  | .slice _=>true
  | .string=>true
  | _=>false
def roomMost:Nat:=2 ^ 40
def appendA (P:Program) (nb ro:Nat) (H:Hp) (types:Array TypeId) (s x:Value):Option (Value × Hp) :=
  match types[0]?,types[1]? with
  | some t,some u =>
    match P.underlying t,P.underlying u with
    | some (.slice e),some d =>
      if rowish d then
        (szO P e).bind fun z=>(bytesO P e).bind fun by_=>(zc P e).bind fun _ =>
        if 0 < z /\ 0 < by_ then
          (srcCells H z x).bind fun new =>
            if new.length = lenV x * z /\ new.all oneB then
              match s with
              | .slice none n q =>
                if n = 0 /\ q = 0 then
                  if lenV x = 0 then some (.slice none 0 0,H)
                  else if lenV x * by_ <= roomMost then some (.slice (some ⟨H.length,0,none⟩) (lenV x) 0,H ++ [.cells new e]) else none
                else none
              | .slice (some a) n q =>
                if a.spot.isSome then none else
                match H[a.block]? with
                | some (.cells cs e') =>
                  if e' = e /\ a.off = q * z /\ a.off + n * z <= cs.length then
                    if lenV x = 0 then some (.slice (some a) n q,H)
                    else if ro <= a.block then
                      if a.off + (n + lenV x) * z <= cs.length /\ (nb <= a.block \/ new.all flat = true) then
                        some (.slice (some a) (n + lenV x) q,H.set a.block (.cells (wrs cs (a.off + n * z) new) e))
                      else if q = 0 /\ n * z = cs.length /\ (n + lenV x) * by_ <= roomMost then
                        some (.slice (some ⟨H.length,0,none⟩) (n + lenV x) 0,H.set a.block .dead ++ [.cells (cs ++ new) e])
                      else none
                    else none
                  else none
                | _=>none
              | _=>none
            else none
        else none
      else none
    | _,_=>none
  | _,_=>none
def copyA (P:Program) (nb ro:Nat) (H:Hp) (types:Array TypeId) (d x:Value):Option (Value × Hp) :=
  match types[0]? with
  | some t =>
    match P.underlying t with
    | some (.slice e) =>
      match d,x with
      | .slice (some a) n _,.slice (some b) m _ =>
        if a.spot.isSome || b.spot.isSome then none else
        (szO P e).bind fun z=>(rdN H b.block b.off (min m n * z)).bind fun new =>
          if nb <= a.block \/ new.all flat = true then (wrB H ro a.block a.off new).map (.int .i64 (min m n),·) else none
      | .slice none n _,.slice _ _ _=>if n = 0 then (szO P e).map fun _=>(.int .i64 0,H) else none
      | .slice _ _ _,.slice none m _=>if m = 0 then (szO P e).map fun _=>(.int .i64 0,H) else none
      | _,_=>none
    | _=>none
  | none=>none
def sliceA (P:Program) (H:Hp) (t:TypeId) (x:Value) (lo hi:Option Value):Option (Value × Hp) :=
  match P.underlying t,x with
  | some .string,.string s =>
    match (match lo with | some (.int _ l)=>some l | none=>some 0 | _=>none),(match hi with | some (.int _ h)=>some h | none=>some (s.size:Int) | _=>none) with
    | some l,some h=>if 0 <= l /\ l <= h /\ h <= (s.size:Int) then some (.string (s.extract l.toNat h.toNat),H) else none
    | _,_=>none
  | some (.slice e),.slice (some a) n q =>
    match (match lo with | some (.int _ l)=>some l | none=>some 0 | _=>none),(match hi with | some (.int _ h)=>some h | none=>some (n:Int) | _=>none) with
    | some l,some h =>
      if a.spot.isSome then none else
      match H[a.block]?,szO P e with
      | some (.cells cs e'),some z =>
        if e' = e /\ a.off = q * z /\ 0 < z /\ 0 <= l /\ l <= h /\ a.off + h.toNat * z <= cs.length then
          if l = 0 then some (.slice (some a) h.toNat q,H)
          else if l < h then some (.slice (some ⟨a.block,a.off + l.toNat * z,none⟩) (h.toNat - l.toNat) (q + l.toNat),H)
          else none
        else none
      | some (.view cs e'),some z =>
        if e' = e /\ a.off = q * z /\ 0 < z /\ l = 0 /\ 0 <= h /\ a.off + h.toNat * z <= cs.length then some (.slice (some a) h.toNat q,H) else none
      | _,_=>none
    | _,_=>none
  | some (.slice e),.slice none n q =>
    match (match lo with | some (.int _ l)=>some l | none=>some 0 | _=>none),(match hi with | some (.int _ h)=>some h | none=>some (n:Int) | _=>none) with
    | some l,some h=>if n = 0 /\ q = 0 /\ l = 0 /\ h = 0 /\ (szO P e).isSome = true then some (.slice none 0 0,H) else none
    | _,_=>none
  | _,_=>none
def callA (M:Mach) (σ:Env) (nb ro:Nat) (H:Hp) (ty:TypeId) (c:Call):Option (R1 × Hp) :=
  (evs σ c.args.toList).bind fun args =>
  match c.callee with
  | .value f =>
    match ev σ f with
    | some (.func (.func g) first captured) =>
      match M.F g with
      | some _=>some (.enter g (first.toList ++ args ++ captured.toList),H)
      | none =>
        match M.X g with
        | some ex =>
          if (first.toList ++ args ++ captured.toList).all flat then (flatten1 (ex (first.toList ++ args ++ captured.toList))).map fun v=>(.val v,H) else none
        | none=>none
    | _=>none
  | .builtin .len=>match args,c.argTypes[0]? with | [x],some t=>(lenA M.P t x).map fun v=>(.val v,H) | _,_=>none
  | .builtin .append=>match args with | [s,x]=>(appendA M.P nb ro H c.argTypes s x).map fun (v,H)=>(.val v,H) | _=>none
  | .builtin .copy=>match args with | [s,x]=>(copyA M.P nb ro H c.argTypes s x).map fun (v,H)=>(.val v,H) | _=>none
  | .builtin .min=>if args.all flat then (flatten1 (pureRun M.P (Builtin.min_ c.argTypes ty args.toArray))).map fun v=>(.val v,H) else none
  | .builtin .max=>if args.all flat then (flatten1 (pureRun M.P (Builtin.max_ c.argTypes ty args.toArray))).map fun v=>(.val v,H) else none
  | _=>none
def opA (M:Mach) (σ:Env) (nb ro:Nat) (H:Hp) (ty:TypeId):Op -> Option (R1 × Hp)
  | .move x=>(ev σ x).map fun v=>(.val v,H)
  | .assign x=>(ev σ x).map fun v=>(.val v,H)
  | .pick c a b =>
    match ev σ c,ev σ a,ev σ b with
    | some (.bool t),some u,some v=>some (.val (if t then u else v),H)
    | _,_,_=>none
  | .alloc t=>(zc M.P t).map fun cs=>(.val (.pointer (some ⟨H.length,0,none⟩)),H ++ [.cells cs t])
  | .box t x=>(ev σ x).bind fun v =>
    if szO M.P t = some v.cells.toList.length /\ v.cells.toList.all oneB then some (.val (.pointer (some ⟨H.length,0,none⟩)),H ++ [.cells v.cells.toList t]) else none
  | .build t parts=>(evParts σ parts.toList).bind fun ps=>(zc M.P t).bind fun z =>
    match M.P.underlying t with
    | some (.struct fs)=>(placesO M.P fs.toList).bind fun pl=>(fillL (fun i=>pl[i]?) z ps).map fun cs=>(.val (.agg cs.toArray),H)
    | some (.array _ e)=>(szO M.P e).bind fun n=>(fillL (fun i=>some (i * n,n)) z ps).map fun cs=>(.val (.agg cs.toArray),H)
    | _=>none
  | .buildSlice t n parts=>(evParts σ parts.toList).bind fun ps =>
    match M.P.underlying t with
    | some (.slice e)=>(zc M.P e).bind fun z =>
      if n * z.length <= 2 ^ 24 then
        (fillL (fun i=>some (i * z.length,z.length)) (List.replicate n z).flatten ps).bind fun cs =>
          if cs.all oneB then some (.val (.slice (some ⟨H.length,0,none⟩) n 0),H ++ [.cells cs e]) else none
      else none
    | _=>none
  | .load t a =>
    match ev σ a with
    | some (.pointer (some a))=>(ldVar M.P H t a).map fun v=>(.val v,H)
    | _=>none
  | .nilCheck x =>
    match ev σ x with
    | some (.pointer (some a))=>some (.val (.pointer (some a)),H)
    | some (.func (.func g) f c)=>some (.val (.func (.func g) f c),H)
    | _=>none
  | .binOp op t x y _ =>
    match ev σ x,ev σ y with
    | some a,some b=>(binA M.P op t x y a b).map fun v=>(.val v,H)
    | _,_=>none
  | .unOp op _ x=>(ev σ x).bind fun a=>if flat a then (flatten1 (pureRun M.P (Op.unary op a))).map fun v=>(.val v,H) else none
  | .convert src dst x=>(ev σ x).bind fun a=>(convA M.P H src dst a).map fun (v,H)=>(.val v,H)
  | .makeInterface t x =>
    match M.P.underlying t,ev σ x with
    | some (.interface _),_=>none
    | some _,some v=>some (.val (.iface t v),H)
    | _,_=>none
  | .makeFunc fn first cap =>
    match fn with
    | .yield _=>none
    | fn=>(evs σ first.toList).bind fun f=>(evs σ cap.toList).bind fun c=>some (.val (.func fn f.toArray c.toArray),H)
  | .makeSlice t l c =>
    match M.P.underlying t,ev σ l,ev σ c with
    | some (.slice e),some (.int _ n),some (.int _ m) =>
      (bytesO M.P e).bind fun by_ =>
      if 0 <= n /\ n <= m /\ by_ * m <= roomMost /\ m <= roomMost then
        (zc M.P e).map fun z=>(.val (.slice (some ⟨H.length,0,none⟩) n.toNat 0),H ++ [.cells (List.replicate n.toNat z).flatten e])
      else none
    | _,_,_=>none
  | .slice t x lo hi none =>
    match ev σ x,(match lo with | some l=>(ev σ l).map some | none=>some none),(match hi with | some l=>(ev σ l).map some | none=>some none) with
    | some v,some l,some h=>(sliceA M.P H t v l h).map fun (v,H)=>(.val v,H)
    | _,_,_=>none
  | .fieldAddr s x f =>
    match M.P.underlying s,ev σ x with
    | some (.struct fs),some (.pointer (some a)) =>
      match fs[f]? with
      | some f=>if (szO M.P f.type).getD 0 = 0 \/ a.spot.isSome then none else some (.val (.pointer (some ⟨a.block,a.off + f.offset,none⟩)),H)
      | none=>none
    | _,_=>none
  | .field t x f =>
    match M.P.underlying t,ev σ x with
    | some (.struct fs),some (.agg cs) =>
      match fs[f]? with
      | some f=>(partA M.P f.type cs.toList f.offset).map fun v=>(.val v,H)
      | none=>none
    | _,_=>none
  | .indexAddr t x ix =>
    match M.P.underlying t,ev σ x,ev σ ix with
    | some (.array n e),some (.pointer (some a)),some (.int _ i) =>
      if 0 <= i /\ i < n /\ a.spot = none then (szO M.P e).map fun z=>(.val (.pointer (some ⟨a.block,a.off + i.toNat * z,none⟩)),H) else none
    | some (.slice e),some (.slice (some a) n _),some (.int _ i) =>
      if 0 <= i /\ i < n /\ a.spot = none then (szO M.P e).map fun z=>(.val (.pointer (some ⟨a.block,a.off + i.toNat * z,none⟩)),H) else none
    | _,_,_=>none
  | .index t x ix =>
    match M.P.underlying t,ev σ x,ev σ ix with
    | some (.array n e),some (.agg cs),some (.int _ i) =>
      if 0 <= i /\ i < n then (szO M.P e).bind fun z=>(partA M.P e cs.toList (i.toNat * z)).map fun v=>(.val v,H) else none
    | some .string,some (.string s),some (.int _ i) =>
      if 0 <= i then (s.data.toList[i.toNat]?).map fun b=>(.val (.int .u8 b.toNat),H) else none
    | _,_,_=>none
  | .range t x =>
    match M.P.underlying t,ev σ x with
    | some .string,some (.string s)=>some (.val (.pointer (some ⟨H.length,0,none⟩)),H ++ [.iter s 0])
    | _,_=>none
  | .next it true =>
    match ev σ it with
    | some (.pointer (some ⟨b,0,_⟩)) =>
      match H[b]? with
      | some (.iter s pos) =>
        if ro <= b then
          if pos < s.size then
            some (.val (.tuple #[.bool true,goInt pos,.int .i32 (Utf8.decode s pos).1]),H.set b (.iter s (pos + (Utf8.decode s pos).2)))
          else some (.val (.tuple #[.bool false]),H)
        else none
      | _=>none
    | _=>none
  | .typeAssert x _ t true =>
    match M.P.underlying t,ev σ x with
    | some (.interface _),_=>none
    | some _,some (.iface u v) =>
      if u = t then some (.val (.tuple #[v,.bool true]),H)
      else ((M.P.info? t).bind (·.zero)).bind fun z=>if flat z then some (.val (.tuple #[z,.bool false]),H) else none
    | some _,some .nilIface=>((M.P.info? t).bind (·.zero)).bind fun z=>if flat z then some (.val (.tuple #[z,.bool false]),H) else none
    | _,_=>none
  | .extract x i =>
    match ev σ x with
    | some (.tuple vs)=>(vs.toList[i]?).map fun v=>(.val v,H)
    | _=>none
  | .call c=>callA M σ nb ro H ty c
  | _=>none
def isW:Op -> Bool
  | .store .. | .next ..=>true
  | .call { callee:=.builtin .append,.. } | .call { callee:=.builtin .copy,.. }=>true
  | _=>false
abbrev CallF:=Nat -> FuncId -> List Value -> Hp -> Option (Value × Hp × List Nat)
def run1 (M:Mach) (call:CallF) (nb ro:Nat) (o:AOp) (s:St):Option St :=
  match o.op with
  | .store t a x =>
    match ev s.env a,ev s.env x with
    | some (.pointer (some a)),some v =>
      (stVar M.P ro s.hp t a v).map fun H=>⟨put o.dst undef s.env,H,soil nb a.block v.cells.toList s.dirty⟩
    | _,_=>none
  | op =>
    (opA M s.env nb ro s.hp o.type op).bind fun (r,H) =>
      match r with
      | .val v=>some ⟨put o.dst v s.env,H,s.dirty⟩
      | .enter f args=>(call ro f args H).map fun (v,H,d)=>⟨put o.dst v s.env,H,d.filter (· < nb) ++ s.dirty⟩
def step1 (M:Mach) (call:CallF) (nb ro:Nat) (quiet:Bool) (o:AOp) (s:St):Option St :=
  match o.guard with
  | none=>run1 M call nb (if quiet && !isW o.op then s.hp.length else ro) o s
  | some (t,want) =>
    match look s.env t with
    | some (.bool b)=>if b = want then run1 M call nb (if quiet && !isW o.op then s.hp.length else ro) o s else some ⟨put o.dst undef s.env,s.hp,s.dirty⟩
    | some _=>some ⟨put o.dst undef s.env,s.hp,s.dirty⟩
    | none=>none
def stepsA (M:Mach) (call:CallF) (nb ro:Nat) (quiet:Bool):List AOp -> St -> Option St
  | [],s=>some s
  | o :: r,s=>(step1 M call nb ro quiet o s).bind fun s=>stepsA M call nb ro quiet r s
def silent (P:Program):Op -> Bool
  | .move _ | .assign _ | .pick .. | .build .. | .unOp .. | .field .. | .index .. | .extract .. | .fieldAddr .. | .indexAddr .. | .makeInterface .. | .makeFunc .. | .typeAssert ..
  | .nilCheck _ | .binOp ..=>true
  | .slice t _ _ _ _=>(match P.underlying t with | some .string=>true | _=>false)
  | .convert s d _=>(match P.underlying s,P.underlying d with | some (.slice _),_=>false | some .string,some (.slice _)=>false | _,_=>true)
  | .call { callee:=.builtin .len,.. } | .call { callee:=.builtin .min,.. } | .call { callee:=.builtin .max,.. }=>true
  | _=>false
def lblks (M:Mach) (call:CallF) (nb ro:Nat) (quiet:Bool) (ls:List Nat):List AOp -> St -> List Nat
  | [],_=>[]
  | o :: r,s =>
    (match o.op with
     | .load _ (.tmp t)=>if ls.contains t then (match look s.env t with | some (.pointer (some p))=>[p.block] | _=>[]) else []
     | _=>[]) ++
    (match (match o.op with | .load ..=>step1 M call nb ro quiet o s | op=>if silent M.P op then step1 M call nb ro quiet o s else none) with
     | some s'=>lblks M call nb ro quiet ls r s'
     | none=>lblks M call nb ro quiet ls r s)
def stabOp (P:Program) (quiet:Bool) (ls bs:List Nat) (o:AOp) (s:St):Bool :=
  match o.op with
  | .load _ (.tmp t)=>if ls.contains t then o.guard.isNone && (match look s.env t with | some (.pointer (some p))=>bs.contains p.block | _=>false) else true
  | .load _ _=>true
  | .store _ a _=>(match ev s.env a with | some (.pointer (some p))=>!bs.contains p.block | _=>false)
  | op=>silent P op || (quiet && !isW op)
def sameV:Value -> Value -> Bool
  | .int k n,.int k' n'=>decide (k = k') && decide (n = n')
  | .bool a,.bool b=>decide (a = b)
  | .string s,.string s'=>decide (s = s')
  | .slice none n q,.slice none n' q'=>decide (n = n') && decide (q = q')
  | .slice (some ⟨b,o,none⟩) n q,.slice (some ⟨b',o',none⟩) n' q'=>decide (b = b') && decide (o = o') && decide (n = n') && decide (q = q')
  | .pointer none,.pointer none=>true
  | .pointer (some ⟨b,o,none⟩),.pointer (some ⟨b',o',none⟩)=>decide (b = b') && decide (o = o')
  | _,_=>false
def sameL:List Value -> List Value -> Bool
  | [],[]=>true
  | x :: l,y :: m=>sameV x y && sameL l m
  | _,_=>false
def sameB:Option Blk -> Option Blk -> Bool
  | some (.cells cs e),some (.cells cs' e')=>decide (e = e') && sameL cs cs'
  | _,_=>false
def stabA (M:Mach) (call:CallF) (nb ro:Nat) (quiet:Bool) (ls bs:List Nat):Nat -> List AOp -> St -> Option St
  | _,[],s=>some s
  | 0,o :: r,s=>stepsA M call nb ro quiet (o :: r) s
  | k + 1,o :: r,s=>(step1 M call nb ro quiet o s).bind fun s' =>
    if stabOp M.P quiet ls bs o s then stabA M call nb ro quiet ls bs k r s' else
    match o.op with
    | .load ..=>none
    | _=>if bs.all (fun b=>sameB s.hp[b]? s'.hp[b]?) then stabA M call nb ro quiet ls bs k r s' else none
def heldL (M:Mach) (call:CallF) (nb ro:Nat):List AOp -> St -> Option (List Nat × St)
  | [],s=>some ([],s)
  | o :: r,s =>
    match o.guard,o.op with
    | none,.load t x =>
      match ev s.env x with
      | some (.pointer (some p))=>(ldVar M.P s.hp t p).bind fun v=>(heldL M call nb ro r ⟨put o.dst v s.env,s.hp,s.dirty⟩).map fun q=>(p.block :: q.1,q.2)
      | _=>none
    | none,.fieldAddr t x f =>
      match M.P.underlying t,ev s.env x with
      | some (.struct fs),some (.pointer (some a)) =>
        match fs[f]? with
        | some f=>if (szO M.P f.type).getD 0 = 0 \/ a.spot.isSome then none else heldL M call nb ro r ⟨put o.dst (.pointer (some ⟨a.block,a.off + f.offset,none⟩)) s.env,s.hp,s.dirty⟩
        | none=>none
      | _,_=>none
    | _,_=>none
def heldS (M:Mach) (call:CallF) (nb ro:Nat) (bs:List Nat):List AOp -> St -> Option St
  | [],s=>some s
  | o :: r,s =>
    match o.guard,o.op with
    | none,.store _ a _ =>
      match ev s.env a with
      | some (.pointer (some p))=>if bs.contains p.block then none else (step1 M call nb ro false o s).bind (heldS M call nb ro bs r)
      | _=>none
    | none,.fieldAddr ..=>(step1 M call nb ro false o s).bind (heldS M call nb ro bs r)
    | _,_=>none
def PB:Nat:=1000000000
theorem pb {f:Nat} (h:Nat.ble (f + 1) PB = true):f < PB:=nLb h
def tagV (b:Bool) (u:Value):Value:=.tuple #[.bool b,u]
def untag:Value -> Option (Bool × Value)
  | .tuple vs=>match vs.toList with | [.bool b,u]=>some (b,u) | _=>none
  | _=>none
inductive RP where
  | go (s:St)
  | pan (v:Value) (s:St)
def run1P (M:Mach) (call:CallF) (nb ro:Nat) (o:AOp) (s:St):Option RP :=
  match o.op with
  | .panic x =>
    match ev s.env x with
    | some (.iface t v)=>if flat (.iface t v) then some (.pan (.iface t v) s) else none
    | _=>none
  | .call c =>
    (callA M s.env nb ro s.hp o.type c).bind fun (r,H) =>
      match r with
      | .val v=>some (.go ⟨put o.dst v s.env,H,s.dirty⟩)
      | .enter f args=>(call ro (PB + f) args H).bind fun (v,H,d) =>
        match untag v with
        | some (true,u)=>some (.go ⟨put o.dst u s.env,H,d.filter (· < nb) ++ s.dirty⟩)
        | some (false,u)=>some (.pan u ⟨s.env,H,d.filter (· < nb) ++ s.dirty⟩)
        | none=>none
  | _=>(run1 M call nb ro o s).map .go
def stepsP (M:Mach) (call:CallF) (nb ro:Nat):List AOp -> St -> Option RP
  | [],s=>some (.go s)
  | o :: r,s =>
    if o.guard.isSome then none else
    match run1P M call nb ro o s with
    | some (.go s)=>stepsP M call nb ro r s
    | x=>x
def lateA (M:Mach) (call:CallF) (nb ro:Nat) (quiet:Bool) (t:TypeId) (ta:Nat) (x:Operand) (l:List AOp) (s:St):Option St :=
  match look s.env ta with
  | some (.pointer (some ⟨b,off,none⟩)) =>
    match s.hp[b]? with
    | some (.cells cs e) =>
      if ro <= b /\ nb <= b then
        (stepsA M call nb ro quiet l ⟨s.env,s.hp.set b .dead,s.dirty⟩).bind fun s1 =>
        (ev s1.env x).bind fun v =>
          match s1.hp[b]? with
          | some .dead =>
            if flat v && v.cells.toList.all oneB && szO M.P t == some v.cells.toList.length && decide (off + v.cells.toList.length <= cs.length) then
              some ⟨s1.env,s1.hp.set b (.cells (wrs cs off v.cells.toList) e),s1.dirty⟩
            else none
          | _=>none
      else none
    | _=>none
  | _=>none
def blkIds (H:Hp) (b:Nat):List Nat :=
  match H[b]? with
  | some (.cells cs _)=>cs.flatMap addrsQ
  | _=>[]
def reach (H:Hp) (nb:Nat):Nat -> List Nat -> List Nat -> Option (List Nat)
  | _,[],acc=>some acc
  | 0,_ :: _,_=>none
  | n + 1,b :: q,acc=>if b < nb \/ b ∈ acc then reach H nb n q acc else reach H nb n (q ++ blkIds H b) (acc ++ [b])
def renum (nb:Nat) (ord:List Nat) (b:Nat):Nat:=if b < nb then b else nb + ord.idxOf b
def reloc (f:Nat -> Nat) (v:Value):Value :=
  if flatQ v then v else
  match v with
  | .pointer (some a)=>.pointer (some ⟨f a.block,a.off,a.spot⟩)
  | .slice (some a) n q=>.slice (some ⟨f a.block,a.off,a.spot⟩) n q
  | v=>vmap f (fun _=>0) (fun _ q=>q) v
def relocB (f:Nat -> Nat):Blk -> Blk
  | .cells cs e=>.cells (cs.map (reloc f)) e
  | b=>b
def fuelGc:Nat:=200
def fixD (f:Nat -> Nat):List Nat -> Hp -> Hp
  | [],H=>H
  | b :: r,H=>if b ∈ r then fixD f r H else (fixD f r H).modify b (relocB f)
def gc (nb:Nat) (roots:List Value) (dirty:List Nat) (H:Hp):Option (List Value × Hp) :=
  (reach H nb fuelGc (roots.flatMap addrsQ ++ dirty.flatMap (blkIds H)) []).bind fun ord =>
    if ord.all (· < H.length) then
      some (roots.map (reloc (renum nb ord)),
        fixD (renum nb ord) dirty (H.take nb) ++ ord.map fun b=>relocB (renum nb ord) (H.getD b .dead))
    else none
def looks (σ:Env):List Nat -> Option (List Value)
  | []=>some []
  | t :: r=>(look σ t).bind fun v=>(looks σ r).bind fun vs=>some (v :: vs)
def norm (nb:Nat) (live:List Nat) (s:St):Option St :=
  (looks s.env live).bind fun vs=>(gc nb vs s.dirty s.hp).map fun (vs,H)=>⟨live.zip vs,H,s.dirty⟩
inductive Out where
  | normal
  | exit (id:Nat)
  | ret
  | panic (v:Value)
  | goto (l:Nat)
def outP:RP -> Out × St
  | .go s=>(.normal,s)
  | .pan v s=>(.panic v,s)
def thenA (f:St -> Option (Out × St)):Option (Out × St) -> Option (Out × St)
  | some (.normal,s)=>f s
  | r=>r
def iterA (body:St -> Option (Out × St)) (head:St -> Option St):Nat -> St -> Option (Out × St)
  | 0,_=>none
  | n + 1,s=>(head s).bind fun s=>thenA (iterA body head n) (body s)
def outOf (id:Nat):Out -> Out
  | .exit j=>if j = id then .normal else .exit j
  | e=>e
def noGo:Option (Out × St) -> Option (Out × St)
  | some (.goto _,_)=>none
  | r=>r
def jumpA (l:Nat) (f:St -> Option (Out × St)):Option (Out × St) -> Option (Out × St)
  | some (.goto j,s)=>if j = l then noGo (f s) else none
  | r=>r
def execN (M:Mach) (call:CallF) (fuel nb ro:Nat):AC -> St -> Option (Out × St)
  | .skip,s=>some (.normal,s)
  | .ret,s=>some (.ret,s)
  | .ops quiet l,s=>(stepsA M call nb ro quiet l s).map (Out.normal,·)
  | .late quiet t ta x l,s=>(lateA M call nb ro quiet t ta x l s).map (Out.normal,·)
  | .opsP l,s=>(stepsP M call nb ro l s).map outP
  | .opsL ls k q l,s=>if (lblks M call nb ro q ls l s).all (fun b=>decide (b < s.hp.length)) then (stabA M call nb ro q ls (lblks M call nb ro q ls l s) k l s).map (Out.normal,·) else none
  | .held _ _ l1 l2,s=>(heldL M call nb ro l1 s).bind fun r=>(heldS M call nb ro r.1 l2 r.2).map (Out.normal,·)
  | .seq a b,s=>thenA (execN M call fuel nb ro b) (execN M call fuel nb ro a s)
  | .cond c a b,s =>
    match ev s.env c with
    | some (.bool t)=>if t then execN M call fuel nb ro a s else execN M call fuel nb ro b s
    | _=>none
  | .block id a,s=>(execN M call fuel nb ro a s).map fun (e,s)=>(outOf id e,s)
  | .loop live a,s=>iterA (execN M call fuel nb ro a) (norm nb live) fuel s
  | .exit id,s=>some (.exit id,s)
  | .scope a,s=>noGo (execN M call fuel nb ro a s)
  | .goto l,s=>some (.goto l,s)
  | .scopeJ l a b,s=>jumpA l (execN M call fuel nb ro b) (execN M call fuel nb ro a s)
def resOf (P:Program) (σ:Env) (H:Hp):List ResultVar -> Option (List Value)
  | []=>some []
  | .tmp t :: r=>(look σ t).bind fun v=>(resOf P σ H r).bind fun vs=>some (v :: vs)
  | .cell a t :: r =>
    match look σ a with
    | some (.pointer (some a))=>(ldVar P H t a).bind fun v=>(resOf P σ H r).bind fun vs=>some (v :: vs)
    | _=>none
def one:List Value -> Value
  | [v]=>v
  | vs=>.tuple vs.toArray
def finish (P:Program) (nb:Nat) (rs:List ResultVar) (s:St):Option (Value × Hp × List Nat) :=
  (resOf P s.env s.hp rs).bind fun vs=>(gc nb vs s.dirty s.hp).map fun (vs,H)=>(one vs,H,s.dirty)
def args0 (args:List Value):Env:=(List.range args.length).zip args
def bodyC (M:Mach) (call:CallF) (n:Nat):CallF:=fun ro f args H =>
  if PB <= f then
    match M.F (f - PB) with
    | none=>none
    | some af =>
      if af.nt < args.length then none else
      match execN M call n H.length ro af.body ⟨args0 args,H,[]⟩ with
      | some (.ret,s)=>(finish M.P H.length af.results s).map fun (v,H,d)=>(tagV true v,H,d)
      | some (.normal,s)=>(finish M.P H.length af.results s).map fun (v,H,d)=>(tagV true v,H,d)
      | some (.panic v,s)=>if flat v then (gc H.length [] s.dirty s.hp).map fun (_,H)=>(tagV false v,H,s.dirty) else none
      | _=>none
  else
  match M.F f with
  | none=>none
  | some af =>
    if af.nt < args.length then none else
    match execN M call n H.length ro af.body ⟨args0 args,H,[]⟩ with
    | some (.ret,s)=>finish M.P H.length af.results s
    | some (.normal,s)=>finish M.P H.length af.results s
    | _=>none
def callN (M:Mach):Nat -> CallF
  | 0=>fun _ _ _ _=>none
  | n + 1=>bodyC M (callN M n) n
def noC:CallF:=fun _ _ _ _=>none
def orC (c1 c2:CallF):CallF:=fun ro f args H =>
  match c1 ro f args H with
  | some r=>some r
  | none=>c2 ro f args H
def flatC (chk:Hp -> Bool) (f0:FuncId) (F:List Value -> Option Value):CallF:=fun _ f args H =>
  if f = f0 then (if chk H then (F args).map fun v=>(v,H,[]) else none) else none
def tabEq (k:IntKind):List Value -> List Int -> Bool
  | [],[]=>true
  | .int k' n :: r,m :: s=>decide (k' = k) && decide (n = m) && tabEq k r s
  | _,_=>false
abbrev oT (t:Nat):Operand:=.tmp t
abbrev oM (d x:Nat) (t:TypeId):AOp:=⟨some d,.move (.tmp x),t,none⟩
abbrev oA (d x:Nat) (t:TypeId):AOp:=⟨some d,.assign (.tmp x),t,none⟩
abbrev oQ (d:Nat) (o:Op) (t:TypeId):AOp:=⟨some d,o,t,none⟩
abbrev oN (o:Op) (t:TypeId):AOp:=⟨none,o,t,none⟩
abbrev oG (d:Nat) (o:Op) (t:TypeId) (g:Nat) (w:Bool):AOp:=⟨some d,o,t,some (g,w)⟩
abbrev cF (f:FuncId) (a:Array Operand) (ts:Array TypeId):Op:=.call { callee:=.value (.func f),args:=a,argTypes:=ts }
abbrev cB (b:Builtin) (a:Array Operand) (ts:Array TypeId):Op:=.call { callee:=.builtin b,args:=a,argTypes:=ts }
abbrev LO:=List AOp
abbrev kI (n:Int):Operand:=.const (.int .i64 n)
abbrev kB (n:Int):Operand:=.const (.int .u8 n)
abbrev kW (n:Int):Operand:=.const (.int .u64 n)
abbrev kT:Operand:=.const (.bool true)
abbrev kF:Operand:=.const (.bool false)
abbrev oL (d t a y:Nat):AOp:=⟨some d,.load t (.tmp a),y,none⟩
abbrev oI (d t a i y:Nat):AOp:=⟨some d,.indexAddr t (.tmp a) (.tmp i),y,none⟩
abbrev oF (d t a f y:Nat):AOp:=⟨some d,.fieldAddr t (.tmp a) f,y,none⟩
abbrev oS (t a v y:Nat):AOp:=⟨none,.store t (.tmp a) (.tmp v),y,none⟩
abbrev oZ (d:Nat) (n:Int) (y:Nat):AOp:=⟨some d,.assign (.const (.int .i64 n)),y,none⟩
abbrev oE (d t a:Nat) (n:Int) (y:Nat):AOp:=⟨some d,.binOp .eql t (.tmp a) (.const (.int .i64 n)) t,y,none⟩
abbrev oV (op:BinOp) (d t a:Nat) (n:Int) (y:Nat):AOp:=⟨some d,.binOp op t (.tmp a) (.const (.int .i64 n)) t,y,none⟩
abbrev oB (op:BinOp) (d t a b y:Nat):AOp:=⟨some d,.binOp op t (.tmp a) (.tmp b) t,y,none⟩
abbrev oP (d a b y:Nat):AOp:=⟨some d,.pick (.tmp a) (.tmp b) (.const (.bool false)),y,none⟩
abbrev oO (d a b y:Nat):AOp:=⟨some d,.pick (.tmp a) (.const (.bool true)) (.tmp b),y,none⟩
abbrev oX (d a i y:Nat):AOp:=⟨some d,.extract (.tmp a) i,y,none⟩
abbrev gM (d x y g:Nat) (w:Bool):AOp:=⟨some d,.move (.tmp x),y,some (g,w)⟩
abbrev gL (d t a y g:Nat) (w:Bool):AOp:=⟨some d,.load t (.tmp a),y,some (g,w)⟩
abbrev gF (d t a f y g:Nat) (w:Bool):AOp:=⟨some d,.fieldAddr t (.tmp a) f,y,some (g,w)⟩
end Go.AM
