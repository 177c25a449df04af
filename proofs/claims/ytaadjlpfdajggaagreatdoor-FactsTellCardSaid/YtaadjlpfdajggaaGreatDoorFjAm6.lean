import Derived.Test.YtaadjlpfdajggaaGreatDoorFjAm5
set_option linter.unusedVariables false
set_option linter.unusedSimpArgs false
namespace Go.AM
open Go
inductive Shape (nb ro:Nat) (H:Hp):Hp -> Prop
  | same:Shape nb ro H H
  | new (x:Blk):Shape nb ro H (H ++ [x])
  | iter (b:Nat) (s:ByteArray) (p p':Nat):ro <= b -> H[b]? = some (.iter s p) -> Shape nb ro H (H.set b (.iter s p'))
  | wr (b:Nat) (cs:List Value) (e:TypeId) (o:Nat) (vs:List Value):ro <= b -> H[b]? = some (.cells cs e) -> o + vs.length <= cs.length -> (nb <= b \/ vs.all flat = true) -> Shape nb ro H (H.set b (.cells (wrs cs o vs) e))
  | tip (b:Nat) (x:Blk):ro <= b -> Shape nb ro H (H.set b .dead ++ [x])
theorem wrB_shape {nb ro b o:Nat} {H H':Hp} {vs:List Value} (h:wrB H ro b o vs = some H') (hf:nb <= b \/ vs.all flat = true):Shape nb ro H H':=by
  unfold wrB at h
  split at h
  · rename_i hc
    simp only [Bool.and_eq_true,decide_eq_true_eq] at hc
    split at h
    · rename_i cs e hk
      split at h
      · rename_i hle
        simp only [oIq] at h; subst h;exact .wr b cs e o vs hc.2 hk hle hf
      · simp at h
    · simp at h
  · simp at h
theorem appendA_shape {P:Program} {nb ro:Nat} {H H':Hp} {ts:Array TypeId} {s x r:Value} (h:appendA P nb ro H ts s x = some (r,H')):Shape nb ro H H':=by
  unfold appendA at h
  split at h
  case h_2=>simp at h
  split at h
  case h_2=>simp at h
  split at h
  case isFalse=>simp at h
  simp only [oBe] at h;obtain ⟨z,hz,by_,hby,zz,hzz,h⟩:=h
  split at h
  case isFalse=>simp at h
  simp only [oBe] at h;obtain ⟨new,hnew,h⟩:=h
  split at h
  case isFalse=>simp at h
  rename_i hnl
  split at h
  · split at h
    case isFalse=>simp at h
    split at h
    · simp only [oIq,pIq] at h
      obtain ⟨rfl,rfl⟩:=h; exact .same
    · split at h
      · simp only [oIq,pIq] at h
        obtain ⟨rfl,rfl⟩:=h; exact .new _
      · simp at h
  · split at h
    · simp at h
    split at h
    case h_2=>simp at h
    rename_i cs e' hk
    split at h
    case isFalse=>simp at h
    rename_i he
    obtain ⟨rfl,h1,h2⟩:=he
    split at h
    · simp only [oIq,pIq] at h
      obtain ⟨rfl,rfl⟩:=h; exact .same
    · split at h
      case isFalse=>simp at h
      rename_i hro
      split at h
      · rename_i hin
        simp only [oIq,pIq] at h;obtain ⟨rfl,rfl⟩:=h;have h3:=hin.1;rw [Nat.add_mul] at h3;exact .wr _ _ _ _ _ hro hk (by rw [hnl.1]; omega) hin.2
      · split at h
        · simp only [oIq,pIq] at h
          obtain ⟨rfl,rfl⟩:=h; exact .tip _ _ hro
        · simp at h
  · simp at h
theorem copyA_shape {P:Program} {nb ro:Nat} {H H':Hp} {ts:Array TypeId} {s x r:Value} (h:copyA P nb ro H ts s x = some (r,H')):Shape nb ro H H':=by
  unfold copyA at h
  split at h
  case h_2=>simp at h
  split at h
  case h_2=>simp at h
  split at h
  · split at h
    · simp at h
    simp only [oBe] at h;obtain ⟨z,hz,new,hnew,h⟩:=h
    split at h
    case isFalse=>simp at h
    rename_i hf
    simp only [oMe,pIq] at h;obtain ⟨H1,hw,rfl,rfl⟩:=h;exact wrB_shape hw hf
  · split at h
    · simp only [oMe,pIq] at h
      obtain ⟨z,hz,rfl,rfl⟩:=h; exact .same
    · simp at h
  · split at h
    · simp only [oMe,pIq] at h
      obtain ⟨z,hz,rfl,rfl⟩:=h; exact .same
    · simp at h
  · simp at h
theorem convA_shape {P:Program} {nb ro:Nat} {H H':Hp} {s d:TypeId} {v r:Value} (h:convA P H s d v = some (r,H')):Shape nb ro H H':=by
  unfold convA at h
  split at h
  · split at h
    · split at h
      · simp only [oIq,pIq] at h
        obtain ⟨rfl,rfl⟩:=h; exact .new _
      · simp at h
    · simp at h
  · split at h
    · split at h
      · simp at h
      · simp only [oMe,pIq] at h
        obtain ⟨_,_,rfl,rfl⟩:=h; exact .same
    · simp at h
  · split at h
    · simp only [oIq,pIq] at h
      obtain ⟨rfl,rfl⟩:=h; exact .same
    · simp at h
  · simp at h
  · split at h
    · simp only [oMe,pIq] at h
      obtain ⟨_,_,rfl,rfl⟩:=h; exact .same
    · simp at h
  · simp at h
theorem sliceA_same {P:Program} {H H':Hp} {t:TypeId} {v r:Value} {lo hi:Option Value} (h:sliceA P H t v lo hi = some (r,H')):H' = H:=by
  unfold sliceA at h
  repeat' split at h
  all_goals first
    | (simp only [oIq,pIq] at h; exact h.2.symm)
    | simp at h
theorem callA_shape {M:Mach} {σ:Env} {nb ro:Nat} {H H':Hp} {ty:TypeId} {c:Call} {r:R1} (h:callA M σ nb ro H ty c = some (r,H')):Shape nb ro H H':=by
  unfold callA at h;simp only [oBe] at h;obtain ⟨args,hargs,h⟩:=h
  split at h
  · split at h
    case h_2=>simp at h
    split at h
    · simp only [oIq,pIq] at h
      obtain ⟨rfl,rfl⟩:=h; exact .same
    · split at h
      case h_2=>simp at h
      split at h
      case isFalse=>simp at h
      simp only [oMe,pIq] at h;obtain ⟨_,_,rfl,rfl⟩:=h; exact .same
  · split at h
    case h_2=>simp at h
    simp only [oMe,pIq] at h;obtain ⟨_,_,rfl,rfl⟩:=h; exact .same
  · split at h
    case h_2=>simp at h
    simp only [oMe,pIq,Prod.exists] at h;obtain ⟨v,H1,hv,rfl,rfl⟩:=h; exact appendA_shape hv
  · split at h
    case h_2=>simp at h
    simp only [oMe,pIq,Prod.exists] at h;obtain ⟨v,H1,hv,rfl,rfl⟩:=h; exact copyA_shape hv
  · split at h
    · simp only [oMe,pIq] at h
      obtain ⟨_,_,rfl,rfl⟩:=h; exact .same
    · simp at h
  · split at h
    · simp only [oMe,pIq] at h
      obtain ⟨_,_,rfl,rfl⟩:=h; exact .same
    · simp at h
  · simp at h
theorem opA_shape {M:Mach} {σ:Env} {nb ro:Nat} {H H':Hp} {ty:TypeId} {op:Op} {r:R1} (h:opA M σ nb ro H ty op = some (r,H')):Shape nb ro H H':=by
  cases op with
  | call c=>exact callA_shape h
  | convert s d x =>
    simp only [opA,oBe,oMe,pIq,Prod.exists] at h;obtain ⟨a,ha,v,H1,hv,rfl,rfl⟩:=h;exact convA_shape hv
  | slice t x lo hi mx =>
    cases mx with
    | some m=>simp [opA] at h
    | none =>
      simp only [opA] at h
      split at h
      case h_2=>simp at h
      simp only [oMe,pIq,Prod.exists] at h;obtain ⟨v,H1,hv,rfl,rfl⟩:=h;rw [sliceA_same hv]; exact .same
  | next it isS =>
    cases isS with
    | false=>simp [opA] at h
    | true =>
      simp only [opA] at h
      split at h
      case h_2=>simp at h
      split at h
      case h_2=>simp at h
      rename_i hk
      split at h
      case isFalse=>simp at h
      rename_i hro
      split at h
      · simp only [oIq,pIq] at h
        obtain ⟨rfl,rfl⟩:=h; exact .iter _ _ _ _ hro hk
      · simp only [oIq,pIq] at h
        obtain ⟨rfl,rfl⟩:=h; exact .same
  | makeFunc fn first cap =>
    cases fn <;> simp only [opA,oBe,oIq,pIq,reduceCtorEq] at h <;>
      (obtain ⟨f,hf,c,hc,rfl,rfl⟩:=h; exact .same)
  | alloc t =>
    simp only [opA,oMe,pIq] at h;obtain ⟨_,_,rfl,rfl⟩:=h; exact .new _
  | box t x =>
    simp only [opA,oBe] at h;obtain ⟨v,hv,h⟩:=h
    split at h
    · simp only [oIq,pIq] at h
      obtain ⟨rfl,rfl⟩:=h; exact .new _
    · simp at h
  | buildSlice t n parts =>
    simp only [opA,oBe] at h;obtain ⟨ps,hps,h⟩:=h
    split at h
    case h_2=>simp at h
    simp only [oBe] at h;obtain ⟨z,hz,h⟩:=h
    split at h
    case isFalse=>simp at h
    simp only [oBe] at h;obtain ⟨cs,hcs,h⟩:=h
    split at h
    · simp only [oIq,pIq] at h
      obtain ⟨rfl,rfl⟩:=h; exact .new _
    · simp at h
  | makeSlice t l c =>
    simp only [opA] at h
    split at h
    case h_2=>simp at h
    simp only [oBe] at h;obtain ⟨z,hz,h⟩:=h
    split at h
    case isFalse=>simp at h
    simp only [oMe,pIq] at h;obtain ⟨_,_,rfl,rfl⟩:=h; exact .new _
  | range t x =>
    simp only [opA] at h
    split at h
    case h_2=>simp at h
    simp only [oIq,pIq] at h;obtain ⟨rfl,rfl⟩:=h; exact .new _
  | _ =>
    have:H' = H:=by
      simp only [opA] at h
      grind [oMe,oBe]
    rw [this]; exact .same
theorem sliceA_str {P:Program} {H H':Hp} {t:TypeId} {v r:Value} {lo hi:Option Value} (hu:P.underlying t = some .string) (h:sliceA P H t v lo hi = some (r,H')) (H2:Hp) :
    sliceA P H2 t v lo hi = some (r,H2):=by
  unfold sliceA at h ⊢;rw [hu] at h ⊢
  cases v <;> simp only [reduceCtorEq] at h
  simp only
  split at h
  · split at h
    · rename_i hc
      simp only [oIq,pIq] at h;rw [if_pos hc,h.1]
    · simp at h
  · simp at h
theorem convA_silent {P:Program} {H H':Hp} {s d:TypeId} {v r:Value} (hs:(match P.underlying s,P.underlying d with | some (.slice _),_=>false | some .string,some (.slice _)=>false | _,_=>true) = true)
    (h:convA P H s d v = some (r,H')):H' = H /\ ∀ H2,convA P H2 s d v = some (r,H2):=by
  unfold convA at h ⊢
  cases hu:P.underlying s with
  | none=>simp [hu] at h
  | some ds =>
    have key:(if flat v then (flatten1 (pureRun P (convert s d v))).map (·,H) else none) = some (r,H') ->
        H' = H /\ ∀ H2:Hp,(if flat v then (flatten1 (pureRun P (convert s d v))).map (·,H2) else none) = some (r,H2):=fun h=>by
      split at h
      · simp only [oMe,pIq] at h
        obtain ⟨u,hu,rfl,rfl⟩:=h;exact ⟨rfl,fun H2=>by rw [if_pos (by assumption),hu]; rfl⟩
      · simp at h
    cases hd:P.underlying d with
    | none=>cases ds <;> simp only [hu,hd,bFt] at hs h ⊢ <;> exact key h
    | some dd =>
      cases ds <;> simp only [hu,hd,bFt] at hs h ⊢ <;> first
        | exact key h
        | (cases dd <;> simp only [bFt] at hs h ⊢ <;> exact key h)
theorem opA_silent {M:Mach} {σ:Env} {nb ro:Nat} {H H':Hp} {ty:TypeId} {op:Op} {r:R1} (hs:silent M.P op = true) (h:opA M σ nb ro H ty op = some (r,H')) :
    H' = H /\ (∃ v,r = .val v) /\ ∀ nb' ro' H2,opA M σ nb' ro' H2 ty op = some (r,H2):=by
  cases op with
  | call c =>
    obtain ⟨cl,ca,ct⟩:=c;simp only [opA,callA,oBe] at h;obtain ⟨args,hargs,h⟩:=h
    cases cl with
    | value f=>simp [silent] at hs
    | invoke f m=>simp [silent] at hs
    | builtin b =>
      cases b <;> simp only [silent,bFt] at hs <;> simp only at h
      · split at h
        case h_2=>simp at h
        rename_i x t ht
        simp only [oMe,pIq] at h;obtain ⟨v,hv,rfl,rfl⟩:=h;exact ⟨rfl,⟨_,rfl⟩,fun nb' ro' H2=>by simp [opA,callA,hargs,ht,hv]⟩
      · split at h
        case isFalse=>simp at h
        rename_i hf
        simp only [oMe,pIq] at h;obtain ⟨v,hv,rfl,rfl⟩:=h;refine ⟨rfl,⟨_,rfl⟩,fun nb' ro' H2=>?_⟩;simp only [opA,callA,hargs,oBs,hf,if_true,hv,oMs]
      · split at h
        case isFalse=>simp at h
        rename_i hf
        simp only [oMe,pIq] at h;obtain ⟨v,hv,rfl,rfl⟩:=h;refine ⟨rfl,⟨_,rfl⟩,fun nb' ro' H2=>?_⟩;simp only [opA,callA,hargs,oBs,hf,if_true,hv,oMs]
  | slice t x lo hi mx =>
    simp only [silent] at hs
    split at hs
    case h_2=>simp at hs
    rename_i hu
    cases mx with
    | some m=>simp [opA] at h
    | none =>
      simp only [opA] at h ⊢
      split at h
      case h_2=>simp at h
      rename_i v l h' hx hl hh
      simp only [oMe,pIq,Prod.exists] at h;obtain ⟨v',H1,hv,rfl,rfl⟩:=h;refine ⟨sliceA_same hv,⟨_,rfl⟩,fun nb' ro' H2=>?_⟩;simp only [sliceA_str hu hv H2,oMs]
  | convert s d x =>
    simp only [silent] at hs;simp only [opA,oBe,oMe,pIq,Prod.exists] at h;obtain ⟨a,ha,v,H1,hv,rfl,rfl⟩:=h;obtain ⟨h1,h2⟩:=convA_silent hs hv;exact ⟨h1,⟨_,rfl⟩,fun nb' ro' H2=>by simp only [opA,ha,oBs,h2 H2,oMs]⟩
  | move x =>
    simp only [opA,oMe,pIq] at h ⊢;obtain ⟨v,hv,rfl,rfl⟩:=h;exact ⟨rfl,⟨v,rfl⟩,fun _ _ H2=>⟨v,hv,by simp⟩⟩
  | assign x =>
    simp only [opA,oMe,pIq] at h ⊢;obtain ⟨v,hv,rfl,rfl⟩:=h;exact ⟨rfl,⟨v,rfl⟩,fun _ _ H2=>⟨v,hv,by simp⟩⟩
  | pick c a b =>
    simp only [opA] at h ⊢
    split at h
    case h_2=>simp at h
    simp only [oIq,pIq] at h;exact ⟨h.2.symm,⟨_,h.1.symm⟩,fun _ _ H2=>by simp [h.1]⟩
  | build t parts =>
    simp only [opA,oBe] at h ⊢;obtain ⟨ps,hps,z,hz,h⟩:=h
    cases hu:M.P.underlying t with
    | none=>simp [hu] at h
    | some d =>
      cases d <;> simp only [hu] at h <;> first
        | (simp at h; done)
        | (simp only [oBe,oMe,pIq] at h
           obtain ⟨n,hn,cs,hcs,rfl,rfl⟩:=h
           exact ⟨rfl,⟨_,rfl⟩,fun _ _ H2=>⟨ps,hps,z,hz,by simp [hn,hcs]⟩⟩)
  | unOp op t x =>
    simp only [opA,oBe] at h ⊢;obtain ⟨a,ha,h⟩:=h
    split at h
    case isFalse=>simp at h
    rename_i hf
    simp only [oMe,pIq] at h;obtain ⟨v,hv,rfl,rfl⟩:=h;exact ⟨rfl,⟨_,rfl⟩,fun _ _ H2=>⟨a,ha,by rw [if_pos hf,hv]; rfl⟩⟩
  | binOp op t x y yt =>
    simp only [opA] at h ⊢
    split at h
    case h_2=>simp at h
    simp only [oMe,pIq] at h ⊢;obtain ⟨v,hv,rfl,rfl⟩:=h;exact ⟨rfl,⟨_,rfl⟩,fun _ _ H2=>⟨v,hv,by simp⟩⟩
  | field t x f =>
    simp only [opA] at h ⊢
    split at h
    case h_2=>simp at h
    split at h
    case h_2=>simp at h
    simp only [oMe,pIq] at h ⊢;obtain ⟨v,hv,rfl,rfl⟩:=h;exact ⟨rfl,⟨_,rfl⟩,fun _ _ H2=>⟨v,hv,by simp⟩⟩
  | fieldAddr t x f =>
    simp only [opA] at h ⊢
    split at h
    case h_2=>simp at h
    split at h
    case h_2=>simp at h
    split at h
    · simp at h
    rename_i hc
    simp only [oIq,pIq] at h;exact ⟨h.2.symm,⟨_,h.1.symm⟩,fun _ _ H2=>by rw [if_neg hc,h.1]⟩
  | index t x ix =>
    simp only [opA] at h ⊢
    split at h
    · split at h
      case isFalse=>simp at h
      rename_i hc
      simp only [oBe,oMe,pIq] at h;obtain ⟨z,hz,v,hv,rfl,rfl⟩:=h;exact ⟨rfl,⟨_,rfl⟩,fun _ _ H2=>by rw [if_pos hc,hz]; simp [hv]⟩
    · split at h
      case isFalse=>simp at h
      rename_i hc
      simp only [oMe,pIq] at h;obtain ⟨v,hv,rfl,rfl⟩:=h;exact ⟨rfl,⟨_,rfl⟩,fun _ _ H2=>by rw [if_pos hc,hv]; rfl⟩
    · simp at h
  | indexAddr t x ix =>
    simp only [opA] at h ⊢
    split at h
    · split at h
      case isFalse=>simp at h
      rename_i hc
      simp only [oMe,pIq] at h;obtain ⟨v,hv,rfl,rfl⟩:=h;exact ⟨rfl,⟨_,rfl⟩,fun _ _ H2=>by rw [if_pos hc,hv]; rfl⟩
    · split at h
      case isFalse=>simp at h
      rename_i hc
      simp only [oMe,pIq] at h;obtain ⟨v,hv,rfl,rfl⟩:=h;exact ⟨rfl,⟨_,rfl⟩,fun _ _ H2=>by rw [if_pos hc,hv]; rfl⟩
    · simp at h
  | extract x i =>
    simp only [opA] at h ⊢
    split at h
    case h_2=>simp at h
    simp only [oMe,pIq] at h ⊢;obtain ⟨v,hv,rfl,rfl⟩:=h;exact ⟨rfl,⟨_,rfl⟩,fun _ _ H2=>⟨v,hv,by simp⟩⟩
  | makeInterface t x =>
    simp only [opA] at h ⊢
    split at h
    · simp at h
    · rename_i hnd hu hv
      simp only [oIq,pIq] at h;exact ⟨h.2.symm,⟨_,h.1.symm⟩,fun _ _ H2=>by first | rw [h.1] | (rw [hu,hv]; simp only; rw [h.1])⟩
    · simp at h
  | makeFunc fn first cap =>
    cases fn <;> simp only [opA,oBe,oIq,pIq,reduceCtorEq] at h ⊢ <;>
      (obtain ⟨f,hf,c,hc,rfl,rfl⟩:=h; exact ⟨rfl,⟨_,rfl⟩,fun _ _ H2=>⟨f,hf,c,hc,by simp⟩⟩)
  | nilCheck x =>
    simp only [opA] at h ⊢
    split at h
    · simp only [oIq,pIq] at h
      exact ⟨h.2.symm,⟨_,h.1.symm⟩,fun _ _ H2=>by rw [h.1]⟩
    · simp only [oIq,pIq] at h
      exact ⟨h.2.symm,⟨_,h.1.symm⟩,fun _ _ H2=>by rw [h.1]⟩
    · simp at h
  | typeAssert x xt t ok =>
    cases ok with
    | false=>simp [opA] at h
    | true =>
      simp only [opA] at h ⊢
      split at h
      · simp at h
      · split at h
        · rename_i hc
          simp only [oIq,pIq] at h;exact ⟨h.2.symm,⟨_,h.1.symm⟩,fun _ _ H2=>by rw [if_pos hc,h.1]⟩
        · rename_i hc
          simp only [oBe] at h;obtain ⟨z,hz,h⟩:=h
          split at h
          case isFalse=>simp at h
          rename_i hf
          simp only [oIq,pIq] at h;exact ⟨h.2.symm,⟨_,h.1.symm⟩,fun _ _ H2=>by rw [if_neg hc]; rw [oBe]; exact ⟨z,oBe.2 hz,by rw [if_pos hf,h.1]⟩⟩
      · simp only [oBe] at h
        obtain ⟨z,hz,h⟩:=h
        split at h
        case isFalse=>simp at h
        rename_i hf
        simp only [oIq,pIq] at h;exact ⟨h.2.symm,⟨_,h.1.symm⟩,fun _ _ H2=>by rw [oBe]; exact ⟨z,oBe.2 hz,by rw [if_pos hf,h.1]⟩⟩
      · simp at h
  | _=>simp only [silent,bFt] at hs
end Go.AM
