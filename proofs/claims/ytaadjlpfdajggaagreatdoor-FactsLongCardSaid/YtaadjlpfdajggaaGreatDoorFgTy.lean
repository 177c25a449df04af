import Derived.Test.YtaadjlpfdajggaaGreatDoorFgTypes
import Derived.Test.YtaadjlpfdajggaaGreatDoorFgAm21
import Derived.Test.YtaadjlpfdajggaaGreatDoorFgMach
set_option maxRecDepth 100000
set_option linter.unusedVariables false
set_option linter.unusedSimpArgs false
namespace Go.Proofs.YtaadjlpfdajggaaGreatDoor
open Go Go.AM
structure class_Set where
 f_W:(Arr Int 4)
 deriving DecidableEq,Inhabited
def class_Set.c (x:class_Set):List Value:=(cArr (n:=4) (cInt .u64)) x.f_W
theorem class_Set.enc:Enc class_Set.c 4 where
 len x:=by simp only [class_Set.c,List.length_append,((enc_arr (n:=4) enc_int)).len]
 one x v hv:=((enc_arr (n:=4) enc_int)).one _ v hv
 flat x v hv:=((enc_arr (n:=4) enc_int)).flat _ v hv
 inj a b h:=by
  have e0:=((enc_arr (n:=4) enc_int)).inj _ _ h
  obtain ⟨a0⟩:=a
  obtain ⟨b0⟩:=b
  dsimp only at e0
  subst e0
  rfl
def class_Set.zero:class_Set:=⟨(Arr.rep 4 0)⟩
abbrev class_Set.w0 (x:class_Set) (y:(Arr Int 4)):class_Set:={ x with f_W:=y }
theorem class_Set.seg0 (x:class_Set):Seg (class_Set.c x) 0 ((cArr (n:=4) (cInt .u64)) x.f_W):=Seg.refl
theorem class_Set.wr0 (x:class_Set) (y:(Arr Int 4)):wrs (class_Set.c x) 0 ((cArr (n:=4) (cInt .u64)) y) = class_Set.c { x with f_W:=y }:=wrs_all (by unfold class_Set.c; rw [((enc_arr (n:=4) enc_int)).len,((enc_arr (n:=4) enc_int)).len])
theorem zs25:zc Mt.P 25 = some (class_Set.c class_Set.zero):=T.zc25
theorem pl25:plO Tryz.prog 25 = some [(0,4)]:=by kernel_rfl
theorem fd25_0:fdO Tryz.prog 25 0 = some (23,0):=by kernel_rfl
theorem fa25_0 {H:Hp} {b o:Nat}:faP Mt H 25 0 (.pointer (some ⟨b,o,none⟩)) = some (.val (.pointer (some ⟨b,o + 0,none⟩)),H):=fa_ok fd25_0 T.sz23
structure lex_Token where
 f_Kind:Int
 f_Set:class_Set
 f_Min:Int
 f_Max:Int
 f_Mode:Int
 f_N:Int
 f_Flags:ByteArray
 deriving DecidableEq,Inhabited
def lex_Token.c (x:lex_Token):List Value:=(cInt .i64) x.f_Kind ++ (class_Set.c x.f_Set ++ ((cInt .i64) x.f_Min ++ ((cInt .i64) x.f_Max ++ ((cInt .i64) x.f_Mode ++ ((cInt .i64) x.f_N ++ (cStr x.f_Flags))))))
theorem lex_Token.enc:Enc lex_Token.c 10 where
 len x:=by simp only [lex_Token.c,List.length_append,(enc_int).len,(class_Set.enc).len,(enc_str).len]
 one x v hv:=by
  simp only [lex_Token.c,List.mem_append] at hv
  rcases hv with hv | hv | hv | hv | hv | hv | hv
  ·exact (enc_int).one _ v hv
  ·exact (class_Set.enc).one _ v hv
  ·exact (enc_int).one _ v hv
  ·exact (enc_int).one _ v hv
  ·exact (enc_int).one _ v hv
  ·exact (enc_int).one _ v hv
  ·exact (enc_str).one _ v hv
 flat x v hv:=by
  simp only [lex_Token.c,List.mem_append] at hv
  rcases hv with hv | hv | hv | hv | hv | hv | hv
  ·exact (enc_int).flat _ v hv
  ·exact (class_Set.enc).flat _ v hv
  ·exact (enc_int).flat _ v hv
  ·exact (enc_int).flat _ v hv
  ·exact (enc_int).flat _ v hv
  ·exact (enc_int).flat _ v hv
  ·exact (enc_str).flat _ v hv
 inj a b h:=by
  simp only [lex_Token.c] at h
  obtain ⟨h0,h⟩:=List.append_inj h (by rw [(enc_int).len,(enc_int).len])
  obtain ⟨h1,h⟩:=List.append_inj h (by rw [(class_Set.enc).len,(class_Set.enc).len])
  obtain ⟨h2,h⟩:=List.append_inj h (by rw [(enc_int).len,(enc_int).len])
  obtain ⟨h3,h⟩:=List.append_inj h (by rw [(enc_int).len,(enc_int).len])
  obtain ⟨h4,h⟩:=List.append_inj h (by rw [(enc_int).len,(enc_int).len])
  obtain ⟨h5,h⟩:=List.append_inj h (by rw [(enc_int).len,(enc_int).len])
  have e6:=(enc_str).inj _ _ h
  have e0:=(enc_int).inj _ _ h0
  have e1:=(class_Set.enc).inj _ _ h1
  have e2:=(enc_int).inj _ _ h2
  have e3:=(enc_int).inj _ _ h3
  have e4:=(enc_int).inj _ _ h4
  have e5:=(enc_int).inj _ _ h5
  obtain ⟨a0,a1,a2,a3,a4,a5,a6⟩:=a
  obtain ⟨b0,b1,b2,b3,b4,b5,b6⟩:=b
  dsimp only at e0 e1 e2 e3 e4 e5 e6
  subst e0 e1 e2 e3 e4 e5 e6
  rfl
def lex_Token.zero:lex_Token:=⟨0,class_Set.zero,0,0,0,0,⟨#[]⟩⟩
abbrev lex_Token.w0 (x:lex_Token) (y:Int):lex_Token:={ x with f_Kind:=y }
theorem lex_Token.seg0 (x:lex_Token):Seg (lex_Token.c x) 0 ((cInt .i64) x.f_Kind):=seg_begin
theorem lex_Token.wr0 (x:lex_Token) (y:Int):wrs (lex_Token.c x) 0 ((cInt .i64) y) = lex_Token.c { x with f_Kind:=y }:=wrs_begin (by rw [(enc_int).len,(enc_int).len])
abbrev lex_Token.w1 (x:lex_Token) (y:class_Set):lex_Token:={ x with f_Set:=y }
theorem lex_Token.seg1 (x:lex_Token):Seg (lex_Token.c x) 1 (class_Set.c x.f_Set):=by
 have h:lex_Token.c x = ((cInt .i64) x.f_Kind) ++ (class_Set.c x.f_Set ++ ((cInt .i64) x.f_Min ++ ((cInt .i64) x.f_Max ++ ((cInt .i64) x.f_Mode ++ ((cInt .i64) x.f_N ++ (cStr x.f_Flags)))))):=by simp only [lex_Token.c,List.append_assoc]
 rw [h]; exact seg_mid (by simp only [List.length_append,(enc_int).len,(class_Set.enc).len,(enc_str).len])
theorem lex_Token.wr1 (x:lex_Token) (y:class_Set):wrs (lex_Token.c x) 1 (class_Set.c y) = lex_Token.c { x with f_Set:=y }:=by
 have h:lex_Token.c x = ((cInt .i64) x.f_Kind) ++ (class_Set.c x.f_Set ++ ((cInt .i64) x.f_Min ++ ((cInt .i64) x.f_Max ++ ((cInt .i64) x.f_Mode ++ ((cInt .i64) x.f_N ++ (cStr x.f_Flags)))))):=by simp only [lex_Token.c,List.append_assoc]
 rw [h,wrs_mid (by simp only [List.length_append,(enc_int).len,(class_Set.enc).len,(enc_str).len]) (by rw [(class_Set.enc).len,(class_Set.enc).len])]; simp only [lex_Token.c,List.append_assoc]
abbrev lex_Token.w2 (x:lex_Token) (y:Int):lex_Token:={ x with f_Min:=y }
theorem lex_Token.seg2 (x:lex_Token):Seg (lex_Token.c x) 5 ((cInt .i64) x.f_Min):=by
 have h:lex_Token.c x = (((cInt .i64) x.f_Kind) ++ class_Set.c x.f_Set) ++ ((cInt .i64) x.f_Min ++ ((cInt .i64) x.f_Max ++ ((cInt .i64) x.f_Mode ++ ((cInt .i64) x.f_N ++ (cStr x.f_Flags))))):=by simp only [lex_Token.c,List.append_assoc]
 rw [h]; exact seg_mid (by simp only [List.length_append,(enc_int).len,(class_Set.enc).len,(enc_str).len])
theorem lex_Token.wr2 (x:lex_Token) (y:Int):wrs (lex_Token.c x) 5 ((cInt .i64) y) = lex_Token.c { x with f_Min:=y }:=by
 have h:lex_Token.c x = (((cInt .i64) x.f_Kind) ++ class_Set.c x.f_Set) ++ ((cInt .i64) x.f_Min ++ ((cInt .i64) x.f_Max ++ ((cInt .i64) x.f_Mode ++ ((cInt .i64) x.f_N ++ (cStr x.f_Flags))))):=by simp only [lex_Token.c,List.append_assoc]
 rw [h,wrs_mid (by simp only [List.length_append,(enc_int).len,(class_Set.enc).len,(enc_str).len]) (by rw [(enc_int).len,(enc_int).len])]; simp only [lex_Token.c,List.append_assoc]
abbrev lex_Token.w3 (x:lex_Token) (y:Int):lex_Token:={ x with f_Max:=y }
theorem lex_Token.seg3 (x:lex_Token):Seg (lex_Token.c x) 6 ((cInt .i64) x.f_Max):=by
 have h:lex_Token.c x = ((((cInt .i64) x.f_Kind) ++ class_Set.c x.f_Set) ++ (cInt .i64) x.f_Min) ++ ((cInt .i64) x.f_Max ++ ((cInt .i64) x.f_Mode ++ ((cInt .i64) x.f_N ++ (cStr x.f_Flags)))):=by simp only [lex_Token.c,List.append_assoc]
 rw [h]; exact seg_mid (by simp only [List.length_append,(enc_int).len,(class_Set.enc).len,(enc_str).len])
theorem lex_Token.wr3 (x:lex_Token) (y:Int):wrs (lex_Token.c x) 6 ((cInt .i64) y) = lex_Token.c { x with f_Max:=y }:=by
 have h:lex_Token.c x = ((((cInt .i64) x.f_Kind) ++ class_Set.c x.f_Set) ++ (cInt .i64) x.f_Min) ++ ((cInt .i64) x.f_Max ++ ((cInt .i64) x.f_Mode ++ ((cInt .i64) x.f_N ++ (cStr x.f_Flags)))):=by simp only [lex_Token.c,List.append_assoc]
 rw [h,wrs_mid (by simp only [List.length_append,(enc_int).len,(class_Set.enc).len,(enc_str).len]) (by rw [(enc_int).len,(enc_int).len])]; simp only [lex_Token.c,List.append_assoc]
theorem lex_Token.seg4 (x:lex_Token):Seg (lex_Token.c x) 7 ((cInt .i64) x.f_Mode):=by
 have h:lex_Token.c x = (((((cInt .i64) x.f_Kind) ++ class_Set.c x.f_Set) ++ (cInt .i64) x.f_Min) ++ (cInt .i64) x.f_Max) ++ ((cInt .i64) x.f_Mode ++ ((cInt .i64) x.f_N ++ (cStr x.f_Flags))):=by simp only [lex_Token.c,List.append_assoc]
 rw [h]; exact seg_mid (by simp only [List.length_append,(enc_int).len,(class_Set.enc).len,(enc_str).len])
abbrev lex_Token.w5 (x:lex_Token) (y:Int):lex_Token:={ x with f_N:=y }
theorem lex_Token.seg5 (x:lex_Token):Seg (lex_Token.c x) 8 ((cInt .i64) x.f_N):=by
 have h:lex_Token.c x = ((((((cInt .i64) x.f_Kind) ++ class_Set.c x.f_Set) ++ (cInt .i64) x.f_Min) ++ (cInt .i64) x.f_Max) ++ (cInt .i64) x.f_Mode) ++ ((cInt .i64) x.f_N ++ (cStr x.f_Flags)):=by simp only [lex_Token.c,List.append_assoc]
 rw [h]; exact seg_mid (by simp only [List.length_append,(enc_int).len,(class_Set.enc).len,(enc_str).len])
abbrev lex_Token.w6 (x:lex_Token) (y:ByteArray):lex_Token:={ x with f_Flags:=y }
theorem lex_Token.seg6 (x:lex_Token):Seg (lex_Token.c x) 9 (cStr x.f_Flags):=by
 have h:lex_Token.c x = (((((((cInt .i64) x.f_Kind) ++ class_Set.c x.f_Set) ++ (cInt .i64) x.f_Min) ++ (cInt .i64) x.f_Max) ++ (cInt .i64) x.f_Mode) ++ (cInt .i64) x.f_N) ++ cStr x.f_Flags:=by simp only [lex_Token.c,List.append_assoc]
 rw [h]; exact seg_end (by simp only [List.length_append,(enc_int).len,(class_Set.enc).len,(enc_str).len])
structure limit_Budget where
 f_Steps:Nat
 f_Room:Nat
 deriving DecidableEq,Inhabited
def limit_Budget.c (x:limit_Budget):List Value:=cFlt x.f_Steps ++ (cFlt x.f_Room)
theorem limit_Budget.enc:Enc limit_Budget.c 2 where
 len x:=by simp only [limit_Budget.c,List.length_append,(enc_flt).len]
 one x v hv:=by
  simp only [limit_Budget.c,List.mem_append] at hv
  rcases hv with hv | hv
  ·exact (enc_flt).one _ v hv
  ·exact (enc_flt).one _ v hv
 flat x v hv:=by
  simp only [limit_Budget.c,List.mem_append] at hv
  rcases hv with hv | hv
  ·exact (enc_flt).flat _ v hv
  ·exact (enc_flt).flat _ v hv
 inj a b h:=by
  simp only [limit_Budget.c] at h
  obtain ⟨h0,h⟩:=List.append_inj h (by rw [(enc_flt).len,(enc_flt).len])
  have e1:=(enc_flt).inj _ _ h
  have e0:=(enc_flt).inj _ _ h0
  obtain ⟨a0,a1⟩:=a
  obtain ⟨b0,b1⟩:=b
  dsimp only at e0 e1
  subst e0 e1
  rfl
def limit_Budget.zero:limit_Budget:=⟨0,0⟩
abbrev limit_Budget.w0 (x:limit_Budget) (y:Nat):limit_Budget:={ x with f_Steps:=y }
theorem limit_Budget.seg0 (x:limit_Budget):Seg (limit_Budget.c x) 0 (cFlt x.f_Steps):=seg_begin
theorem limit_Budget.wr0 (x:limit_Budget) (y:Nat):wrs (limit_Budget.c x) 0 (cFlt y) = limit_Budget.c { x with f_Steps:=y }:=wrs_begin (by rw [(enc_flt).len,(enc_flt).len])
abbrev limit_Budget.w1 (x:limit_Budget) (y:Nat):limit_Budget:={ x with f_Room:=y }
theorem limit_Budget.seg1 (x:limit_Budget):Seg (limit_Budget.c x) 1 (cFlt x.f_Room):=by
 have h:limit_Budget.c x = (cFlt x.f_Steps) ++ cFlt x.f_Room:=by simp only [limit_Budget.c,List.append_assoc]
 rw [h]; exact seg_end (by simp only [List.length_append,(enc_flt).len])
theorem limit_Budget.wr1 (x:limit_Budget) (y:Nat):wrs (limit_Budget.c x) 1 (cFlt y) = limit_Budget.c { x with f_Room:=y }:=by
 have h:limit_Budget.c x = (cFlt x.f_Steps) ++ cFlt x.f_Room:=by simp only [limit_Budget.c,List.append_assoc]
 rw [h,wrs_end (by simp only [List.length_append,(enc_flt).len]) (by rw [(enc_flt).len,(enc_flt).len])]; simp only [limit_Budget.c,List.append_assoc]
structure facts_Facts where
 f_First:class_Set
 f_Open:Bool
 f_Fast:Bool
 f_Prefix:ByteArray
 deriving DecidableEq,Inhabited
def facts_Facts.c (x:facts_Facts):List Value:=class_Set.c x.f_First ++ (cBool x.f_Open ++ (cBool x.f_Fast ++ (cStr x.f_Prefix)))
theorem facts_Facts.enc:Enc facts_Facts.c 7 where
 len x:=by simp only [facts_Facts.c,List.length_append,(class_Set.enc).len,(enc_bool).len,(enc_str).len]
 one x v hv:=by
  simp only [facts_Facts.c,List.mem_append] at hv
  rcases hv with hv | hv | hv | hv
  ·exact (class_Set.enc).one _ v hv
  ·exact (enc_bool).one _ v hv
  ·exact (enc_bool).one _ v hv
  ·exact (enc_str).one _ v hv
 flat x v hv:=by
  simp only [facts_Facts.c,List.mem_append] at hv
  rcases hv with hv | hv | hv | hv
  ·exact (class_Set.enc).flat _ v hv
  ·exact (enc_bool).flat _ v hv
  ·exact (enc_bool).flat _ v hv
  ·exact (enc_str).flat _ v hv
 inj a b h:=by
  simp only [facts_Facts.c] at h
  obtain ⟨h0,h⟩:=List.append_inj h (by rw [(class_Set.enc).len,(class_Set.enc).len])
  obtain ⟨h1,h⟩:=List.append_inj h (by rw [(enc_bool).len,(enc_bool).len])
  obtain ⟨h2,h⟩:=List.append_inj h (by rw [(enc_bool).len,(enc_bool).len])
  have e3:=(enc_str).inj _ _ h
  have e0:=(class_Set.enc).inj _ _ h0
  have e1:=(enc_bool).inj _ _ h1
  have e2:=(enc_bool).inj _ _ h2
  obtain ⟨a0,a1,a2,a3⟩:=a
  obtain ⟨b0,b1,b2,b3⟩:=b
  dsimp only at e0 e1 e2 e3
  subst e0 e1 e2 e3
  rfl
def facts_Facts.zero:facts_Facts:=⟨class_Set.zero,false,false,⟨#[]⟩⟩
abbrev facts_Facts.w0 (x:facts_Facts) (y:class_Set):facts_Facts:={ x with f_First:=y }
theorem facts_Facts.seg0 (x:facts_Facts):Seg (facts_Facts.c x) 0 (class_Set.c x.f_First):=seg_begin
theorem facts_Facts.wr0 (x:facts_Facts) (y:class_Set):wrs (facts_Facts.c x) 0 (class_Set.c y) = facts_Facts.c { x with f_First:=y }:=wrs_begin (by rw [(class_Set.enc).len,(class_Set.enc).len])
abbrev facts_Facts.w1 (x:facts_Facts) (y:Bool):facts_Facts:={ x with f_Open:=y }
theorem facts_Facts.seg1 (x:facts_Facts):Seg (facts_Facts.c x) 4 (cBool x.f_Open):=by
 have h:facts_Facts.c x = (class_Set.c x.f_First) ++ (cBool x.f_Open ++ (cBool x.f_Fast ++ (cStr x.f_Prefix))):=by simp only [facts_Facts.c,List.append_assoc]
 rw [h]; exact seg_mid (by simp only [List.length_append,(class_Set.enc).len,(enc_bool).len,(enc_str).len])
theorem facts_Facts.wr1 (x:facts_Facts) (y:Bool):wrs (facts_Facts.c x) 4 (cBool y) = facts_Facts.c { x with f_Open:=y }:=by
 have h:facts_Facts.c x = (class_Set.c x.f_First) ++ (cBool x.f_Open ++ (cBool x.f_Fast ++ (cStr x.f_Prefix))):=by simp only [facts_Facts.c,List.append_assoc]
 rw [h,wrs_mid (by simp only [List.length_append,(class_Set.enc).len,(enc_bool).len,(enc_str).len]) (by rw [(enc_bool).len,(enc_bool).len])]; simp only [facts_Facts.c,List.append_assoc]
abbrev facts_Facts.w2 (x:facts_Facts) (y:Bool):facts_Facts:={ x with f_Fast:=y }
theorem facts_Facts.seg2 (x:facts_Facts):Seg (facts_Facts.c x) 5 (cBool x.f_Fast):=by
 have h:facts_Facts.c x = ((class_Set.c x.f_First) ++ cBool x.f_Open) ++ (cBool x.f_Fast ++ (cStr x.f_Prefix)):=by simp only [facts_Facts.c,List.append_assoc]
 rw [h]; exact seg_mid (by simp only [List.length_append,(class_Set.enc).len,(enc_bool).len,(enc_str).len])
theorem facts_Facts.wr2 (x:facts_Facts) (y:Bool):wrs (facts_Facts.c x) 5 (cBool y) = facts_Facts.c { x with f_Fast:=y }:=by
 have h:facts_Facts.c x = ((class_Set.c x.f_First) ++ cBool x.f_Open) ++ (cBool x.f_Fast ++ (cStr x.f_Prefix)):=by simp only [facts_Facts.c,List.append_assoc]
 rw [h,wrs_mid (by simp only [List.length_append,(class_Set.enc).len,(enc_bool).len,(enc_str).len]) (by rw [(enc_bool).len,(enc_bool).len])]; simp only [facts_Facts.c,List.append_assoc]
abbrev facts_Facts.w3 (x:facts_Facts) (y:ByteArray):facts_Facts:={ x with f_Prefix:=y }
theorem facts_Facts.seg3 (x:facts_Facts):Seg (facts_Facts.c x) 6 (cStr x.f_Prefix):=by
 have h:facts_Facts.c x = (((class_Set.c x.f_First) ++ cBool x.f_Open) ++ cBool x.f_Fast) ++ cStr x.f_Prefix:=by simp only [facts_Facts.c,List.append_assoc]
 rw [h]; exact seg_end (by simp only [List.length_append,(class_Set.enc).len,(enc_bool).len,(enc_str).len])
theorem facts_Facts.wr3 (x:facts_Facts) (y:ByteArray):wrs (facts_Facts.c x) 6 (cStr y) = facts_Facts.c { x with f_Prefix:=y }:=by
 have h:facts_Facts.c x = (((class_Set.c x.f_First) ++ cBool x.f_Open) ++ cBool x.f_Fast) ++ cStr x.f_Prefix:=by simp only [facts_Facts.c,List.append_assoc]
 rw [h,wrs_end (by simp only [List.length_append,(class_Set.enc).len,(enc_bool).len,(enc_str).len]) (by rw [(enc_str).len,(enc_str).len])]; simp only [facts_Facts.c,List.append_assoc]
theorem zs54:zc Mt.P 54 = some (facts_Facts.c facts_Facts.zero):=T.zc54
theorem pl54:plO Tryz.prog 54 = some [(0,4),(4,1),(5,1),(6,1)]:=by kernel_rfl
theorem fd54_0:fdO Tryz.prog 54 0 = some (25,0):=by kernel_rfl
theorem fa54_0 {H:Hp} {b o:Nat}:faP Mt H 54 0 (.pointer (some ⟨b,o,none⟩)) = some (.val (.pointer (some ⟨b,o + 0,none⟩)),H):=fa_ok fd54_0 T.sz25
theorem fd54_1:fdO Tryz.prog 54 1 = some (4,4):=by kernel_rfl
theorem fa54_1 {H:Hp} {b o:Nat}:faP Mt H 54 1 (.pointer (some ⟨b,o,none⟩)) = some (.val (.pointer (some ⟨b,o + 4,none⟩)),H):=fa_ok fd54_1 T.sz4
theorem fd54_2:fdO Tryz.prog 54 2 = some (4,5):=by kernel_rfl
theorem fa54_2 {H:Hp} {b o:Nat}:faP Mt H 54 2 (.pointer (some ⟨b,o,none⟩)) = some (.val (.pointer (some ⟨b,o + 5,none⟩)),H):=fa_ok fd54_2 T.sz4
theorem fd54_3:fdO Tryz.prog 54 3 = some (9,6):=by kernel_rfl
theorem fa54_3 {H:Hp} {b o:Nat}:faP Mt H 54 3 (.pointer (some ⟨b,o,none⟩)) = some (.val (.pointer (some ⟨b,o + 6,none⟩)),H):=fa_ok fd54_3 T.sz9
structure ref01_Set where
 f_In:(Arr Bool 256)
 deriving DecidableEq,Inhabited
def ref01_Set.c (x:ref01_Set):List Value:=(cArr (n:=256) cBool) x.f_In
theorem ref01_Set.enc:Enc ref01_Set.c 256 where
 len x:=by simp only [ref01_Set.c,List.length_append,((enc_arr (n:=256) enc_bool)).len]
 one x v hv:=((enc_arr (n:=256) enc_bool)).one _ v hv
 flat x v hv:=((enc_arr (n:=256) enc_bool)).flat _ v hv
 inj a b h:=by
  have e0:=((enc_arr (n:=256) enc_bool)).inj _ _ h
  obtain ⟨a0⟩:=a
  obtain ⟨b0⟩:=b
  dsimp only at e0
  subst e0
  rfl
def ref01_Set.zero:ref01_Set:=⟨(Arr.rep 256 false)⟩
abbrev ref01_Set.w0 (x:ref01_Set) (y:(Arr Bool 256)):ref01_Set:={ x with f_In:=y }
theorem ref01_Set.seg0 (x:ref01_Set):Seg (ref01_Set.c x) 0 ((cArr (n:=256) cBool) x.f_In):=Seg.refl
theorem ref01_Set.wr0 (x:ref01_Set) (y:(Arr Bool 256)):wrs (ref01_Set.c x) 0 ((cArr (n:=256) cBool) y) = ref01_Set.c { x with f_In:=y }:=wrs_all (by unfold ref01_Set.c; rw [((enc_arr (n:=256) enc_bool)).len,((enc_arr (n:=256) enc_bool)).len])
structure ref09_Facts where
 f_First:ref01_Set
 f_Open:Bool
 f_Fast:Bool
 f_Prefix:ByteArray
 deriving DecidableEq,Inhabited
def ref09_Facts.c (x:ref09_Facts):List Value:=ref01_Set.c x.f_First ++ (cBool x.f_Open ++ (cBool x.f_Fast ++ (cStr x.f_Prefix)))
theorem ref09_Facts.enc:Enc ref09_Facts.c 259 where
 len x:=by simp only [ref09_Facts.c,List.length_append,(ref01_Set.enc).len,(enc_bool).len,(enc_str).len]
 one x v hv:=by
  simp only [ref09_Facts.c,List.mem_append] at hv
  rcases hv with hv | hv | hv | hv
  ·exact (ref01_Set.enc).one _ v hv
  ·exact (enc_bool).one _ v hv
  ·exact (enc_bool).one _ v hv
  ·exact (enc_str).one _ v hv
 flat x v hv:=by
  simp only [ref09_Facts.c,List.mem_append] at hv
  rcases hv with hv | hv | hv | hv
  ·exact (ref01_Set.enc).flat _ v hv
  ·exact (enc_bool).flat _ v hv
  ·exact (enc_bool).flat _ v hv
  ·exact (enc_str).flat _ v hv
 inj a b h:=by
  simp only [ref09_Facts.c] at h
  obtain ⟨h0,h⟩:=List.append_inj h (by rw [(ref01_Set.enc).len,(ref01_Set.enc).len])
  obtain ⟨h1,h⟩:=List.append_inj h (by rw [(enc_bool).len,(enc_bool).len])
  obtain ⟨h2,h⟩:=List.append_inj h (by rw [(enc_bool).len,(enc_bool).len])
  have e3:=(enc_str).inj _ _ h
  have e0:=(ref01_Set.enc).inj _ _ h0
  have e1:=(enc_bool).inj _ _ h1
  have e2:=(enc_bool).inj _ _ h2
  obtain ⟨a0,a1,a2,a3⟩:=a
  obtain ⟨b0,b1,b2,b3⟩:=b
  dsimp only at e0 e1 e2 e3
  subst e0 e1 e2 e3
  rfl
def ref09_Facts.zero:ref09_Facts:=⟨ref01_Set.zero,false,false,⟨#[]⟩⟩
abbrev ref09_Facts.w0 (x:ref09_Facts) (y:ref01_Set):ref09_Facts:={ x with f_First:=y }
theorem ref09_Facts.seg0 (x:ref09_Facts):Seg (ref09_Facts.c x) 0 (ref01_Set.c x.f_First):=seg_begin
theorem ref09_Facts.wr0 (x:ref09_Facts) (y:ref01_Set):wrs (ref09_Facts.c x) 0 (ref01_Set.c y) = ref09_Facts.c { x with f_First:=y }:=wrs_begin (by rw [(ref01_Set.enc).len,(ref01_Set.enc).len])
abbrev ref09_Facts.w1 (x:ref09_Facts) (y:Bool):ref09_Facts:={ x with f_Open:=y }
theorem ref09_Facts.seg1 (x:ref09_Facts):Seg (ref09_Facts.c x) 256 (cBool x.f_Open):=by
 have h:ref09_Facts.c x = (ref01_Set.c x.f_First) ++ (cBool x.f_Open ++ (cBool x.f_Fast ++ (cStr x.f_Prefix))):=by simp only [ref09_Facts.c,List.append_assoc]
 rw [h]; exact seg_mid (by simp only [List.length_append,(ref01_Set.enc).len,(enc_bool).len,(enc_str).len])
theorem ref09_Facts.wr1 (x:ref09_Facts) (y:Bool):wrs (ref09_Facts.c x) 256 (cBool y) = ref09_Facts.c { x with f_Open:=y }:=by
 have h:ref09_Facts.c x = (ref01_Set.c x.f_First) ++ (cBool x.f_Open ++ (cBool x.f_Fast ++ (cStr x.f_Prefix))):=by simp only [ref09_Facts.c,List.append_assoc]
 rw [h,wrs_mid (by simp only [List.length_append,(ref01_Set.enc).len,(enc_bool).len,(enc_str).len]) (by rw [(enc_bool).len,(enc_bool).len])]; simp only [ref09_Facts.c,List.append_assoc]
abbrev ref09_Facts.w2 (x:ref09_Facts) (y:Bool):ref09_Facts:={ x with f_Fast:=y }
theorem ref09_Facts.seg2 (x:ref09_Facts):Seg (ref09_Facts.c x) 257 (cBool x.f_Fast):=by
 have h:ref09_Facts.c x = ((ref01_Set.c x.f_First) ++ cBool x.f_Open) ++ (cBool x.f_Fast ++ (cStr x.f_Prefix)):=by simp only [ref09_Facts.c,List.append_assoc]
 rw [h]; exact seg_mid (by simp only [List.length_append,(ref01_Set.enc).len,(enc_bool).len,(enc_str).len])
theorem ref09_Facts.wr2 (x:ref09_Facts) (y:Bool):wrs (ref09_Facts.c x) 257 (cBool y) = ref09_Facts.c { x with f_Fast:=y }:=by
 have h:ref09_Facts.c x = ((ref01_Set.c x.f_First) ++ cBool x.f_Open) ++ (cBool x.f_Fast ++ (cStr x.f_Prefix)):=by simp only [ref09_Facts.c,List.append_assoc]
 rw [h,wrs_mid (by simp only [List.length_append,(ref01_Set.enc).len,(enc_bool).len,(enc_str).len]) (by rw [(enc_bool).len,(enc_bool).len])]; simp only [ref09_Facts.c,List.append_assoc]
abbrev ref09_Facts.w3 (x:ref09_Facts) (y:ByteArray):ref09_Facts:={ x with f_Prefix:=y }
theorem ref09_Facts.seg3 (x:ref09_Facts):Seg (ref09_Facts.c x) 258 (cStr x.f_Prefix):=by
 have h:ref09_Facts.c x = (((ref01_Set.c x.f_First) ++ cBool x.f_Open) ++ cBool x.f_Fast) ++ cStr x.f_Prefix:=by simp only [ref09_Facts.c,List.append_assoc]
 rw [h]; exact seg_end (by simp only [List.length_append,(ref01_Set.enc).len,(enc_bool).len,(enc_str).len])
theorem ref09_Facts.wr3 (x:ref09_Facts) (y:ByteArray):wrs (ref09_Facts.c x) 258 (cStr y) = ref09_Facts.c { x with f_Prefix:=y }:=by
 have h:ref09_Facts.c x = (((ref01_Set.c x.f_First) ++ cBool x.f_Open) ++ cBool x.f_Fast) ++ cStr x.f_Prefix:=by simp only [ref09_Facts.c,List.append_assoc]
 rw [h,wrs_end (by simp only [List.length_append,(ref01_Set.enc).len,(enc_bool).len,(enc_str).len]) (by rw [(enc_str).len,(enc_str).len])]; simp only [ref09_Facts.c,List.append_assoc]
structure ast_Node where
 f_Kind:Int
 f_A:Int
 f_B:Int
 f_Set:class_Set
 f_Min:Int
 f_Max:Int
 f_Mode:Int
 f_N:Int
 f_Fold:Bool
 deriving DecidableEq,Inhabited
def ast_Node.c (x:ast_Node):List Value:=(cInt .i64) x.f_Kind ++ ((cInt .i64) x.f_A ++ ((cInt .i64) x.f_B ++ (class_Set.c x.f_Set ++ ((cInt .i64) x.f_Min ++ ((cInt .i64) x.f_Max ++ ((cInt .i64) x.f_Mode ++ ((cInt .i64) x.f_N ++ (cBool x.f_Fold))))))))
theorem ast_Node.enc:Enc ast_Node.c 12 where
 len x:=by simp only [ast_Node.c,List.length_append,(enc_int).len,(class_Set.enc).len,(enc_bool).len]
 one x v hv:=by
  simp only [ast_Node.c,List.mem_append] at hv
  rcases hv with hv | hv | hv | hv | hv | hv | hv | hv | hv
  ·exact (enc_int).one _ v hv
  ·exact (enc_int).one _ v hv
  ·exact (enc_int).one _ v hv
  ·exact (class_Set.enc).one _ v hv
  ·exact (enc_int).one _ v hv
  ·exact (enc_int).one _ v hv
  ·exact (enc_int).one _ v hv
  ·exact (enc_int).one _ v hv
  ·exact (enc_bool).one _ v hv
 flat x v hv:=by
  simp only [ast_Node.c,List.mem_append] at hv
  rcases hv with hv | hv | hv | hv | hv | hv | hv | hv | hv
  ·exact (enc_int).flat _ v hv
  ·exact (enc_int).flat _ v hv
  ·exact (enc_int).flat _ v hv
  ·exact (class_Set.enc).flat _ v hv
  ·exact (enc_int).flat _ v hv
  ·exact (enc_int).flat _ v hv
  ·exact (enc_int).flat _ v hv
  ·exact (enc_int).flat _ v hv
  ·exact (enc_bool).flat _ v hv
 inj a b h:=by
  simp only [ast_Node.c] at h
  obtain ⟨h0,h⟩:=List.append_inj h (by rw [(enc_int).len,(enc_int).len])
  obtain ⟨h1,h⟩:=List.append_inj h (by rw [(enc_int).len,(enc_int).len])
  obtain ⟨h2,h⟩:=List.append_inj h (by rw [(enc_int).len,(enc_int).len])
  obtain ⟨h3,h⟩:=List.append_inj h (by rw [(class_Set.enc).len,(class_Set.enc).len])
  obtain ⟨h4,h⟩:=List.append_inj h (by rw [(enc_int).len,(enc_int).len])
  obtain ⟨h5,h⟩:=List.append_inj h (by rw [(enc_int).len,(enc_int).len])
  obtain ⟨h6,h⟩:=List.append_inj h (by rw [(enc_int).len,(enc_int).len])
  obtain ⟨h7,h⟩:=List.append_inj h (by rw [(enc_int).len,(enc_int).len])
  have e8:=(enc_bool).inj _ _ h
  have e0:=(enc_int).inj _ _ h0
  have e1:=(enc_int).inj _ _ h1
  have e2:=(enc_int).inj _ _ h2
  have e3:=(class_Set.enc).inj _ _ h3
  have e4:=(enc_int).inj _ _ h4
  have e5:=(enc_int).inj _ _ h5
  have e6:=(enc_int).inj _ _ h6
  have e7:=(enc_int).inj _ _ h7
  obtain ⟨a0,a1,a2,a3,a4,a5,a6,a7,a8⟩:=a
  obtain ⟨b0,b1,b2,b3,b4,b5,b6,b7,b8⟩:=b
  dsimp only at e0 e1 e2 e3 e4 e5 e6 e7 e8
  subst e0 e1 e2 e3 e4 e5 e6 e7 e8
  rfl
def ast_Node.zero:ast_Node:=⟨0,0,0,class_Set.zero,0,0,0,0,false⟩
abbrev ast_Node.w0 (x:ast_Node) (y:Int):ast_Node:={ x with f_Kind:=y }
theorem ast_Node.seg0 (x:ast_Node):Seg (ast_Node.c x) 0 ((cInt .i64) x.f_Kind):=seg_begin
theorem ast_Node.wr0 (x:ast_Node) (y:Int):wrs (ast_Node.c x) 0 ((cInt .i64) y) = ast_Node.c { x with f_Kind:=y }:=wrs_begin (by rw [(enc_int).len,(enc_int).len])
abbrev ast_Node.w1 (x:ast_Node) (y:Int):ast_Node:={ x with f_A:=y }
theorem ast_Node.seg1 (x:ast_Node):Seg (ast_Node.c x) 1 ((cInt .i64) x.f_A):=by
 have h:ast_Node.c x = ((cInt .i64) x.f_Kind) ++ ((cInt .i64) x.f_A ++ ((cInt .i64) x.f_B ++ (class_Set.c x.f_Set ++ ((cInt .i64) x.f_Min ++ ((cInt .i64) x.f_Max ++ ((cInt .i64) x.f_Mode ++ ((cInt .i64) x.f_N ++ (cBool x.f_Fold)))))))):=by simp only [ast_Node.c,List.append_assoc]
 rw [h]; exact seg_mid (by simp only [List.length_append,(enc_int).len,(class_Set.enc).len,(enc_bool).len])
theorem ast_Node.wr1 (x:ast_Node) (y:Int):wrs (ast_Node.c x) 1 ((cInt .i64) y) = ast_Node.c { x with f_A:=y }:=by
 have h:ast_Node.c x = ((cInt .i64) x.f_Kind) ++ ((cInt .i64) x.f_A ++ ((cInt .i64) x.f_B ++ (class_Set.c x.f_Set ++ ((cInt .i64) x.f_Min ++ ((cInt .i64) x.f_Max ++ ((cInt .i64) x.f_Mode ++ ((cInt .i64) x.f_N ++ (cBool x.f_Fold)))))))):=by simp only [ast_Node.c,List.append_assoc]
 rw [h,wrs_mid (by simp only [List.length_append,(enc_int).len,(class_Set.enc).len,(enc_bool).len]) (by rw [(enc_int).len,(enc_int).len])]; simp only [ast_Node.c,List.append_assoc]
abbrev ast_Node.w2 (x:ast_Node) (y:Int):ast_Node:={ x with f_B:=y }
theorem ast_Node.seg2 (x:ast_Node):Seg (ast_Node.c x) 2 ((cInt .i64) x.f_B):=by
 have h:ast_Node.c x = (((cInt .i64) x.f_Kind) ++ (cInt .i64) x.f_A) ++ ((cInt .i64) x.f_B ++ (class_Set.c x.f_Set ++ ((cInt .i64) x.f_Min ++ ((cInt .i64) x.f_Max ++ ((cInt .i64) x.f_Mode ++ ((cInt .i64) x.f_N ++ (cBool x.f_Fold))))))):=by simp only [ast_Node.c,List.append_assoc]
 rw [h]; exact seg_mid (by simp only [List.length_append,(enc_int).len,(class_Set.enc).len,(enc_bool).len])
theorem ast_Node.wr2 (x:ast_Node) (y:Int):wrs (ast_Node.c x) 2 ((cInt .i64) y) = ast_Node.c { x with f_B:=y }:=by
 have h:ast_Node.c x = (((cInt .i64) x.f_Kind) ++ (cInt .i64) x.f_A) ++ ((cInt .i64) x.f_B ++ (class_Set.c x.f_Set ++ ((cInt .i64) x.f_Min ++ ((cInt .i64) x.f_Max ++ ((cInt .i64) x.f_Mode ++ ((cInt .i64) x.f_N ++ (cBool x.f_Fold))))))):=by simp only [ast_Node.c,List.append_assoc]
 rw [h,wrs_mid (by simp only [List.length_append,(enc_int).len,(class_Set.enc).len,(enc_bool).len]) (by rw [(enc_int).len,(enc_int).len])]; simp only [ast_Node.c,List.append_assoc]
abbrev ast_Node.w3 (x:ast_Node) (y:class_Set):ast_Node:={ x with f_Set:=y }
theorem ast_Node.seg3 (x:ast_Node):Seg (ast_Node.c x) 3 (class_Set.c x.f_Set):=by
 have h:ast_Node.c x = ((((cInt .i64) x.f_Kind) ++ (cInt .i64) x.f_A) ++ (cInt .i64) x.f_B) ++ (class_Set.c x.f_Set ++ ((cInt .i64) x.f_Min ++ ((cInt .i64) x.f_Max ++ ((cInt .i64) x.f_Mode ++ ((cInt .i64) x.f_N ++ (cBool x.f_Fold)))))):=by simp only [ast_Node.c,List.append_assoc]
 rw [h]; exact seg_mid (by simp only [List.length_append,(enc_int).len,(class_Set.enc).len,(enc_bool).len])
theorem ast_Node.wr3 (x:ast_Node) (y:class_Set):wrs (ast_Node.c x) 3 (class_Set.c y) = ast_Node.c { x with f_Set:=y }:=by
 have h:ast_Node.c x = ((((cInt .i64) x.f_Kind) ++ (cInt .i64) x.f_A) ++ (cInt .i64) x.f_B) ++ (class_Set.c x.f_Set ++ ((cInt .i64) x.f_Min ++ ((cInt .i64) x.f_Max ++ ((cInt .i64) x.f_Mode ++ ((cInt .i64) x.f_N ++ (cBool x.f_Fold)))))):=by simp only [ast_Node.c,List.append_assoc]
 rw [h,wrs_mid (by simp only [List.length_append,(enc_int).len,(class_Set.enc).len,(enc_bool).len]) (by rw [(class_Set.enc).len,(class_Set.enc).len])]; simp only [ast_Node.c,List.append_assoc]
theorem ast_Node.seg4 (x:ast_Node):Seg (ast_Node.c x) 7 ((cInt .i64) x.f_Min):=by
 have h:ast_Node.c x = (((((cInt .i64) x.f_Kind) ++ (cInt .i64) x.f_A) ++ (cInt .i64) x.f_B) ++ class_Set.c x.f_Set) ++ ((cInt .i64) x.f_Min ++ ((cInt .i64) x.f_Max ++ ((cInt .i64) x.f_Mode ++ ((cInt .i64) x.f_N ++ (cBool x.f_Fold))))):=by simp only [ast_Node.c,List.append_assoc]
 rw [h]; exact seg_mid (by simp only [List.length_append,(enc_int).len,(class_Set.enc).len,(enc_bool).len])
abbrev ast_Node.w5 (x:ast_Node) (y:Int):ast_Node:={ x with f_Max:=y }
theorem ast_Node.seg5 (x:ast_Node):Seg (ast_Node.c x) 8 ((cInt .i64) x.f_Max):=by
 have h:ast_Node.c x = ((((((cInt .i64) x.f_Kind) ++ (cInt .i64) x.f_A) ++ (cInt .i64) x.f_B) ++ class_Set.c x.f_Set) ++ (cInt .i64) x.f_Min) ++ ((cInt .i64) x.f_Max ++ ((cInt .i64) x.f_Mode ++ ((cInt .i64) x.f_N ++ (cBool x.f_Fold)))):=by simp only [ast_Node.c,List.append_assoc]
 rw [h]; exact seg_mid (by simp only [List.length_append,(enc_int).len,(class_Set.enc).len,(enc_bool).len])
abbrev ast_Node.w6 (x:ast_Node) (y:Int):ast_Node:={ x with f_Mode:=y }
theorem ast_Node.seg6 (x:ast_Node):Seg (ast_Node.c x) 9 ((cInt .i64) x.f_Mode):=by
 have h:ast_Node.c x = (((((((cInt .i64) x.f_Kind) ++ (cInt .i64) x.f_A) ++ (cInt .i64) x.f_B) ++ class_Set.c x.f_Set) ++ (cInt .i64) x.f_Min) ++ (cInt .i64) x.f_Max) ++ ((cInt .i64) x.f_Mode ++ ((cInt .i64) x.f_N ++ (cBool x.f_Fold))):=by simp only [ast_Node.c,List.append_assoc]
 rw [h]; exact seg_mid (by simp only [List.length_append,(enc_int).len,(class_Set.enc).len,(enc_bool).len])
theorem ast_Node.seg7 (x:ast_Node):Seg (ast_Node.c x) 10 ((cInt .i64) x.f_N):=by
 have h:ast_Node.c x = ((((((((cInt .i64) x.f_Kind) ++ (cInt .i64) x.f_A) ++ (cInt .i64) x.f_B) ++ class_Set.c x.f_Set) ++ (cInt .i64) x.f_Min) ++ (cInt .i64) x.f_Max) ++ (cInt .i64) x.f_Mode) ++ ((cInt .i64) x.f_N ++ (cBool x.f_Fold)):=by simp only [ast_Node.c,List.append_assoc]
 rw [h]; exact seg_mid (by simp only [List.length_append,(enc_int).len,(class_Set.enc).len,(enc_bool).len])
theorem ast_Node.seg8 (x:ast_Node):Seg (ast_Node.c x) 11 (cBool x.f_Fold):=by
 have h:ast_Node.c x = (((((((((cInt .i64) x.f_Kind) ++ (cInt .i64) x.f_A) ++ (cInt .i64) x.f_B) ++ class_Set.c x.f_Set) ++ (cInt .i64) x.f_Min) ++ (cInt .i64) x.f_Max) ++ (cInt .i64) x.f_Mode) ++ (cInt .i64) x.f_N) ++ cBool x.f_Fold:=by simp only [ast_Node.c,List.append_assoc]
 rw [h]; exact seg_end (by simp only [List.length_append,(enc_int).len,(class_Set.enc).len,(enc_bool).len])
theorem zs72:zc Mt.P 72 = some (ast_Node.c ast_Node.zero):=T.zc72
theorem fd72_0:fdO Tryz.prog 72 0 = some (3,0):=by kernel_rfl
theorem fa72_0 {H:Hp} {b o:Nat}:faP Mt H 72 0 (.pointer (some ⟨b,o,none⟩)) = some (.val (.pointer (some ⟨b,o + 0,none⟩)),H):=fa_ok fd72_0 T.sz3
theorem fd72_1:fdO Tryz.prog 72 1 = some (3,1):=by kernel_rfl
theorem fa72_1 {H:Hp} {b o:Nat}:faP Mt H 72 1 (.pointer (some ⟨b,o,none⟩)) = some (.val (.pointer (some ⟨b,o + 1,none⟩)),H):=fa_ok fd72_1 T.sz3
theorem fd72_2:fdO Tryz.prog 72 2 = some (3,2):=by kernel_rfl
theorem fa72_2 {H:Hp} {b o:Nat}:faP Mt H 72 2 (.pointer (some ⟨b,o,none⟩)) = some (.val (.pointer (some ⟨b,o + 2,none⟩)),H):=fa_ok fd72_2 T.sz3
theorem fd72_3:fdO Tryz.prog 72 3 = some (25,3):=by kernel_rfl
theorem fa72_3 {H:Hp} {b o:Nat}:faP Mt H 72 3 (.pointer (some ⟨b,o,none⟩)) = some (.val (.pointer (some ⟨b,o + 3,none⟩)),H):=fa_ok fd72_3 T.sz25
theorem fd72_4:fdO Tryz.prog 72 4 = some (3,7):=by kernel_rfl
theorem fa72_4 {H:Hp} {b o:Nat}:faP Mt H 72 4 (.pointer (some ⟨b,o,none⟩)) = some (.val (.pointer (some ⟨b,o + 7,none⟩)),H):=fa_ok fd72_4 T.sz3
theorem fd72_5:fdO Tryz.prog 72 5 = some (3,8):=by kernel_rfl
theorem fa72_5 {H:Hp} {b o:Nat}:faP Mt H 72 5 (.pointer (some ⟨b,o,none⟩)) = some (.val (.pointer (some ⟨b,o + 8,none⟩)),H):=fa_ok fd72_5 T.sz3
theorem fd72_6:fdO Tryz.prog 72 6 = some (3,9):=by kernel_rfl
theorem fa72_6 {H:Hp} {b o:Nat}:faP Mt H 72 6 (.pointer (some ⟨b,o,none⟩)) = some (.val (.pointer (some ⟨b,o + 9,none⟩)),H):=fa_ok fd72_6 T.sz3
theorem fd72_7:fdO Tryz.prog 72 7 = some (3,10):=by kernel_rfl
theorem fa72_7 {H:Hp} {b o:Nat}:faP Mt H 72 7 (.pointer (some ⟨b,o,none⟩)) = some (.val (.pointer (some ⟨b,o + 10,none⟩)),H):=fa_ok fd72_7 T.sz3
structure ref05_Node where
 f_Kind:Int
 f_A:Int
 f_B:Int
 f_Set:(Arr Int 4)
 f_Min:Int
 f_Max:Int
 f_Mode:Int
 f_N:Int
 f_Fold:Bool
 deriving DecidableEq,Inhabited
def ref05_Node.c (x:ref05_Node):List Value:=(cInt .i64) x.f_Kind ++ ((cInt .i64) x.f_A ++ ((cInt .i64) x.f_B ++ ((cArr (n:=4) (cInt .u64)) x.f_Set ++ ((cInt .i64) x.f_Min ++ ((cInt .i64) x.f_Max ++ ((cInt .i64) x.f_Mode ++ ((cInt .i64) x.f_N ++ (cBool x.f_Fold))))))))
theorem ref05_Node.enc:Enc ref05_Node.c 12 where
 len x:=by simp only [ref05_Node.c,List.length_append,(enc_int).len,((enc_arr (n:=4) enc_int)).len,(enc_bool).len]
 one x v hv:=by
  simp only [ref05_Node.c,List.mem_append] at hv
  rcases hv with hv | hv | hv | hv | hv | hv | hv | hv | hv
  ·exact (enc_int).one _ v hv
  ·exact (enc_int).one _ v hv
  ·exact (enc_int).one _ v hv
  ·exact ((enc_arr (n:=4) enc_int)).one _ v hv
  ·exact (enc_int).one _ v hv
  ·exact (enc_int).one _ v hv
  ·exact (enc_int).one _ v hv
  ·exact (enc_int).one _ v hv
  ·exact (enc_bool).one _ v hv
 flat x v hv:=by
  simp only [ref05_Node.c,List.mem_append] at hv
  rcases hv with hv | hv | hv | hv | hv | hv | hv | hv | hv
  ·exact (enc_int).flat _ v hv
  ·exact (enc_int).flat _ v hv
  ·exact (enc_int).flat _ v hv
  ·exact ((enc_arr (n:=4) enc_int)).flat _ v hv
  ·exact (enc_int).flat _ v hv
  ·exact (enc_int).flat _ v hv
  ·exact (enc_int).flat _ v hv
  ·exact (enc_int).flat _ v hv
  ·exact (enc_bool).flat _ v hv
 inj a b h:=by
  simp only [ref05_Node.c] at h
  obtain ⟨h0,h⟩:=List.append_inj h (by rw [(enc_int).len,(enc_int).len])
  obtain ⟨h1,h⟩:=List.append_inj h (by rw [(enc_int).len,(enc_int).len])
  obtain ⟨h2,h⟩:=List.append_inj h (by rw [(enc_int).len,(enc_int).len])
  obtain ⟨h3,h⟩:=List.append_inj h (by rw [((enc_arr (n:=4) enc_int)).len,((enc_arr (n:=4) enc_int)).len])
  obtain ⟨h4,h⟩:=List.append_inj h (by rw [(enc_int).len,(enc_int).len])
  obtain ⟨h5,h⟩:=List.append_inj h (by rw [(enc_int).len,(enc_int).len])
  obtain ⟨h6,h⟩:=List.append_inj h (by rw [(enc_int).len,(enc_int).len])
  obtain ⟨h7,h⟩:=List.append_inj h (by rw [(enc_int).len,(enc_int).len])
  have e8:=(enc_bool).inj _ _ h
  have e0:=(enc_int).inj _ _ h0
  have e1:=(enc_int).inj _ _ h1
  have e2:=(enc_int).inj _ _ h2
  have e3:=((enc_arr (n:=4) enc_int)).inj _ _ h3
  have e4:=(enc_int).inj _ _ h4
  have e5:=(enc_int).inj _ _ h5
  have e6:=(enc_int).inj _ _ h6
  have e7:=(enc_int).inj _ _ h7
  obtain ⟨a0,a1,a2,a3,a4,a5,a6,a7,a8⟩:=a
  obtain ⟨b0,b1,b2,b3,b4,b5,b6,b7,b8⟩:=b
  dsimp only at e0 e1 e2 e3 e4 e5 e6 e7 e8
  subst e0 e1 e2 e3 e4 e5 e6 e7 e8
  rfl
def ref05_Node.zero:ref05_Node:=⟨0,0,0,(Arr.rep 4 0),0,0,0,0,false⟩
abbrev ref05_Node.w0 (x:ref05_Node) (y:Int):ref05_Node:={ x with f_Kind:=y }
theorem ref05_Node.seg0 (x:ref05_Node):Seg (ref05_Node.c x) 0 ((cInt .i64) x.f_Kind):=seg_begin
theorem ref05_Node.wr0 (x:ref05_Node) (y:Int):wrs (ref05_Node.c x) 0 ((cInt .i64) y) = ref05_Node.c { x with f_Kind:=y }:=wrs_begin (by rw [(enc_int).len,(enc_int).len])
abbrev ref05_Node.w1 (x:ref05_Node) (y:Int):ref05_Node:={ x with f_A:=y }
theorem ref05_Node.seg1 (x:ref05_Node):Seg (ref05_Node.c x) 1 ((cInt .i64) x.f_A):=by
 have h:ref05_Node.c x = ((cInt .i64) x.f_Kind) ++ ((cInt .i64) x.f_A ++ ((cInt .i64) x.f_B ++ ((cArr (n:=4) (cInt .u64)) x.f_Set ++ ((cInt .i64) x.f_Min ++ ((cInt .i64) x.f_Max ++ ((cInt .i64) x.f_Mode ++ ((cInt .i64) x.f_N ++ (cBool x.f_Fold)))))))):=by simp only [ref05_Node.c,List.append_assoc]
 rw [h]; exact seg_mid (by simp only [List.length_append,(enc_int).len,((enc_arr (n:=4) enc_int)).len,(enc_bool).len])
theorem ref05_Node.wr1 (x:ref05_Node) (y:Int):wrs (ref05_Node.c x) 1 ((cInt .i64) y) = ref05_Node.c { x with f_A:=y }:=by
 have h:ref05_Node.c x = ((cInt .i64) x.f_Kind) ++ ((cInt .i64) x.f_A ++ ((cInt .i64) x.f_B ++ ((cArr (n:=4) (cInt .u64)) x.f_Set ++ ((cInt .i64) x.f_Min ++ ((cInt .i64) x.f_Max ++ ((cInt .i64) x.f_Mode ++ ((cInt .i64) x.f_N ++ (cBool x.f_Fold)))))))):=by simp only [ref05_Node.c,List.append_assoc]
 rw [h,wrs_mid (by simp only [List.length_append,(enc_int).len,((enc_arr (n:=4) enc_int)).len,(enc_bool).len]) (by rw [(enc_int).len,(enc_int).len])]; simp only [ref05_Node.c,List.append_assoc]
abbrev ref05_Node.w2 (x:ref05_Node) (y:Int):ref05_Node:={ x with f_B:=y }
theorem ref05_Node.seg2 (x:ref05_Node):Seg (ref05_Node.c x) 2 ((cInt .i64) x.f_B):=by
 have h:ref05_Node.c x = (((cInt .i64) x.f_Kind) ++ (cInt .i64) x.f_A) ++ ((cInt .i64) x.f_B ++ ((cArr (n:=4) (cInt .u64)) x.f_Set ++ ((cInt .i64) x.f_Min ++ ((cInt .i64) x.f_Max ++ ((cInt .i64) x.f_Mode ++ ((cInt .i64) x.f_N ++ (cBool x.f_Fold))))))):=by simp only [ref05_Node.c,List.append_assoc]
 rw [h]; exact seg_mid (by simp only [List.length_append,(enc_int).len,((enc_arr (n:=4) enc_int)).len,(enc_bool).len])
theorem ref05_Node.wr2 (x:ref05_Node) (y:Int):wrs (ref05_Node.c x) 2 ((cInt .i64) y) = ref05_Node.c { x with f_B:=y }:=by
 have h:ref05_Node.c x = (((cInt .i64) x.f_Kind) ++ (cInt .i64) x.f_A) ++ ((cInt .i64) x.f_B ++ ((cArr (n:=4) (cInt .u64)) x.f_Set ++ ((cInt .i64) x.f_Min ++ ((cInt .i64) x.f_Max ++ ((cInt .i64) x.f_Mode ++ ((cInt .i64) x.f_N ++ (cBool x.f_Fold))))))):=by simp only [ref05_Node.c,List.append_assoc]
 rw [h,wrs_mid (by simp only [List.length_append,(enc_int).len,((enc_arr (n:=4) enc_int)).len,(enc_bool).len]) (by rw [(enc_int).len,(enc_int).len])]; simp only [ref05_Node.c,List.append_assoc]
abbrev ref05_Node.w3 (x:ref05_Node) (y:(Arr Int 4)):ref05_Node:={ x with f_Set:=y }
theorem ref05_Node.seg3 (x:ref05_Node):Seg (ref05_Node.c x) 3 ((cArr (n:=4) (cInt .u64)) x.f_Set):=by
 have h:ref05_Node.c x = ((((cInt .i64) x.f_Kind) ++ (cInt .i64) x.f_A) ++ (cInt .i64) x.f_B) ++ ((cArr (n:=4) (cInt .u64)) x.f_Set ++ ((cInt .i64) x.f_Min ++ ((cInt .i64) x.f_Max ++ ((cInt .i64) x.f_Mode ++ ((cInt .i64) x.f_N ++ (cBool x.f_Fold)))))):=by simp only [ref05_Node.c,List.append_assoc]
 rw [h]; exact seg_mid (by simp only [List.length_append,(enc_int).len,((enc_arr (n:=4) enc_int)).len,(enc_bool).len])
theorem ref05_Node.wr3 (x:ref05_Node) (y:(Arr Int 4)):wrs (ref05_Node.c x) 3 ((cArr (n:=4) (cInt .u64)) y) = ref05_Node.c { x with f_Set:=y }:=by
 have h:ref05_Node.c x = ((((cInt .i64) x.f_Kind) ++ (cInt .i64) x.f_A) ++ (cInt .i64) x.f_B) ++ ((cArr (n:=4) (cInt .u64)) x.f_Set ++ ((cInt .i64) x.f_Min ++ ((cInt .i64) x.f_Max ++ ((cInt .i64) x.f_Mode ++ ((cInt .i64) x.f_N ++ (cBool x.f_Fold)))))):=by simp only [ref05_Node.c,List.append_assoc]
 rw [h,wrs_mid (by simp only [List.length_append,(enc_int).len,((enc_arr (n:=4) enc_int)).len,(enc_bool).len]) (by rw [((enc_arr (n:=4) enc_int)).len,((enc_arr (n:=4) enc_int)).len])]; simp only [ref05_Node.c,List.append_assoc]
theorem ref05_Node.seg4 (x:ref05_Node):Seg (ref05_Node.c x) 7 ((cInt .i64) x.f_Min):=by
 have h:ref05_Node.c x = (((((cInt .i64) x.f_Kind) ++ (cInt .i64) x.f_A) ++ (cInt .i64) x.f_B) ++ (cArr (n:=4) (cInt .u64)) x.f_Set) ++ ((cInt .i64) x.f_Min ++ ((cInt .i64) x.f_Max ++ ((cInt .i64) x.f_Mode ++ ((cInt .i64) x.f_N ++ (cBool x.f_Fold))))):=by simp only [ref05_Node.c,List.append_assoc]
 rw [h]; exact seg_mid (by simp only [List.length_append,(enc_int).len,((enc_arr (n:=4) enc_int)).len,(enc_bool).len])
abbrev ref05_Node.w5 (x:ref05_Node) (y:Int):ref05_Node:={ x with f_Max:=y }
theorem ref05_Node.seg5 (x:ref05_Node):Seg (ref05_Node.c x) 8 ((cInt .i64) x.f_Max):=by
 have h:ref05_Node.c x = ((((((cInt .i64) x.f_Kind) ++ (cInt .i64) x.f_A) ++ (cInt .i64) x.f_B) ++ (cArr (n:=4) (cInt .u64)) x.f_Set) ++ (cInt .i64) x.f_Min) ++ ((cInt .i64) x.f_Max ++ ((cInt .i64) x.f_Mode ++ ((cInt .i64) x.f_N ++ (cBool x.f_Fold)))):=by simp only [ref05_Node.c,List.append_assoc]
 rw [h]; exact seg_mid (by simp only [List.length_append,(enc_int).len,((enc_arr (n:=4) enc_int)).len,(enc_bool).len])
abbrev ref05_Node.w6 (x:ref05_Node) (y:Int):ref05_Node:={ x with f_Mode:=y }
theorem ref05_Node.seg6 (x:ref05_Node):Seg (ref05_Node.c x) 9 ((cInt .i64) x.f_Mode):=by
 have h:ref05_Node.c x = (((((((cInt .i64) x.f_Kind) ++ (cInt .i64) x.f_A) ++ (cInt .i64) x.f_B) ++ (cArr (n:=4) (cInt .u64)) x.f_Set) ++ (cInt .i64) x.f_Min) ++ (cInt .i64) x.f_Max) ++ ((cInt .i64) x.f_Mode ++ ((cInt .i64) x.f_N ++ (cBool x.f_Fold))):=by simp only [ref05_Node.c,List.append_assoc]
 rw [h]; exact seg_mid (by simp only [List.length_append,(enc_int).len,((enc_arr (n:=4) enc_int)).len,(enc_bool).len])
theorem ref05_Node.seg7 (x:ref05_Node):Seg (ref05_Node.c x) 10 ((cInt .i64) x.f_N):=by
 have h:ref05_Node.c x = ((((((((cInt .i64) x.f_Kind) ++ (cInt .i64) x.f_A) ++ (cInt .i64) x.f_B) ++ (cArr (n:=4) (cInt .u64)) x.f_Set) ++ (cInt .i64) x.f_Min) ++ (cInt .i64) x.f_Max) ++ (cInt .i64) x.f_Mode) ++ ((cInt .i64) x.f_N ++ (cBool x.f_Fold)):=by simp only [ref05_Node.c,List.append_assoc]
 rw [h]; exact seg_mid (by simp only [List.length_append,(enc_int).len,((enc_arr (n:=4) enc_int)).len,(enc_bool).len])
theorem ref05_Node.seg8 (x:ref05_Node):Seg (ref05_Node.c x) 11 (cBool x.f_Fold):=by
 have h:ref05_Node.c x = (((((((((cInt .i64) x.f_Kind) ++ (cInt .i64) x.f_A) ++ (cInt .i64) x.f_B) ++ (cArr (n:=4) (cInt .u64)) x.f_Set) ++ (cInt .i64) x.f_Min) ++ (cInt .i64) x.f_Max) ++ (cInt .i64) x.f_Mode) ++ (cInt .i64) x.f_N) ++ cBool x.f_Fold:=by simp only [ref05_Node.c,List.append_assoc]
 rw [h]; exact seg_end (by simp only [List.length_append,(enc_int).len,((enc_arr (n:=4) enc_int)).len,(enc_bool).len])
structure facts_known where
 f_Facts:facts_Facts
 f_whole:Bool
 f_none:Bool
 deriving DecidableEq,Inhabited
def facts_known.c (x:facts_known):List Value:=facts_Facts.c x.f_Facts ++ (cBool x.f_whole ++ (cBool x.f_none))
theorem facts_known.enc:Enc facts_known.c 9 where
 len x:=by simp only [facts_known.c,List.length_append,(facts_Facts.enc).len,(enc_bool).len]
 one x v hv:=by
  simp only [facts_known.c,List.mem_append] at hv
  rcases hv with hv | hv | hv
  ·exact (facts_Facts.enc).one _ v hv
  ·exact (enc_bool).one _ v hv
  ·exact (enc_bool).one _ v hv
 flat x v hv:=by
  simp only [facts_known.c,List.mem_append] at hv
  rcases hv with hv | hv | hv
  ·exact (facts_Facts.enc).flat _ v hv
  ·exact (enc_bool).flat _ v hv
  ·exact (enc_bool).flat _ v hv
 inj a b h:=by
  simp only [facts_known.c] at h
  obtain ⟨h0,h⟩:=List.append_inj h (by rw [(facts_Facts.enc).len,(facts_Facts.enc).len])
  obtain ⟨h1,h⟩:=List.append_inj h (by rw [(enc_bool).len,(enc_bool).len])
  have e2:=(enc_bool).inj _ _ h
  have e0:=(facts_Facts.enc).inj _ _ h0
  have e1:=(enc_bool).inj _ _ h1
  obtain ⟨a0,a1,a2⟩:=a
  obtain ⟨b0,b1,b2⟩:=b
  dsimp only at e0 e1 e2
  subst e0 e1 e2
  rfl
def facts_known.zero:facts_known:=⟨facts_Facts.zero,false,false⟩
abbrev facts_known.w0 (x:facts_known) (y:facts_Facts):facts_known:={ x with f_Facts:=y }
theorem facts_known.seg0 (x:facts_known):Seg (facts_known.c x) 0 (facts_Facts.c x.f_Facts):=seg_begin
theorem facts_known.wr0 (x:facts_known) (y:facts_Facts):wrs (facts_known.c x) 0 (facts_Facts.c y) = facts_known.c { x with f_Facts:=y }:=wrs_begin (by rw [(facts_Facts.enc).len,(facts_Facts.enc).len])
abbrev facts_known.w1 (x:facts_known) (y:Bool):facts_known:={ x with f_whole:=y }
theorem facts_known.seg1 (x:facts_known):Seg (facts_known.c x) 7 (cBool x.f_whole):=by
 have h:facts_known.c x = (facts_Facts.c x.f_Facts) ++ (cBool x.f_whole ++ (cBool x.f_none)):=by simp only [facts_known.c,List.append_assoc]
 rw [h]; exact seg_mid (by simp only [List.length_append,(facts_Facts.enc).len,(enc_bool).len])
theorem facts_known.wr1 (x:facts_known) (y:Bool):wrs (facts_known.c x) 7 (cBool y) = facts_known.c { x with f_whole:=y }:=by
 have h:facts_known.c x = (facts_Facts.c x.f_Facts) ++ (cBool x.f_whole ++ (cBool x.f_none)):=by simp only [facts_known.c,List.append_assoc]
 rw [h,wrs_mid (by simp only [List.length_append,(facts_Facts.enc).len,(enc_bool).len]) (by rw [(enc_bool).len,(enc_bool).len])]; simp only [facts_known.c,List.append_assoc]
abbrev facts_known.w2 (x:facts_known) (y:Bool):facts_known:={ x with f_none:=y }
theorem facts_known.seg2 (x:facts_known):Seg (facts_known.c x) 8 (cBool x.f_none):=by
 have h:facts_known.c x = ((facts_Facts.c x.f_Facts) ++ cBool x.f_whole) ++ cBool x.f_none:=by simp only [facts_known.c,List.append_assoc]
 rw [h]; exact seg_end (by simp only [List.length_append,(facts_Facts.enc).len,(enc_bool).len])
theorem facts_known.wr2 (x:facts_known) (y:Bool):wrs (facts_known.c x) 8 (cBool y) = facts_known.c { x with f_none:=y }:=by
 have h:facts_known.c x = ((facts_Facts.c x.f_Facts) ++ cBool x.f_whole) ++ cBool x.f_none:=by simp only [facts_known.c,List.append_assoc]
 rw [h,wrs_end (by simp only [List.length_append,(facts_Facts.enc).len,(enc_bool).len]) (by rw [(enc_bool).len,(enc_bool).len])]; simp only [facts_known.c,List.append_assoc]
theorem zs107:zc Mt.P 107 = some (facts_known.c facts_known.zero):=T.zc107
theorem pl107:plO Tryz.prog 107 = some [(0,7),(7,1),(8,1)]:=by kernel_rfl
theorem fd107_0:fdO Tryz.prog 107 0 = some (54,0):=by kernel_rfl
theorem fa107_0 {H:Hp} {b o:Nat}:faP Mt H 107 0 (.pointer (some ⟨b,o,none⟩)) = some (.val (.pointer (some ⟨b,o + 0,none⟩)),H):=fa_ok fd107_0 T.sz54
theorem fd107_1:fdO Tryz.prog 107 1 = some (4,7):=by kernel_rfl
theorem fa107_1 {H:Hp} {b o:Nat}:faP Mt H 107 1 (.pointer (some ⟨b,o,none⟩)) = some (.val (.pointer (some ⟨b,o + 7,none⟩)),H):=fa_ok fd107_1 T.sz4
theorem fd107_2:fdO Tryz.prog 107 2 = some (4,8):=by kernel_rfl
theorem fa107_2 {H:Hp} {b o:Nat}:faP Mt H 107 2 (.pointer (some ⟨b,o,none⟩)) = some (.val (.pointer (some ⟨b,o + 8,none⟩)),H):=fa_ok fd107_2 T.sz4
theorem ix23 {H:Hp} {a:(Arr Int 4)} {k:IntKind} {i:Int}:idxP Mt H 23 (vAgg ((cArr (n:=4) (cInt .u64)) a)) (.int k i) = (ck 4 i).map fun j=>(.val (.int .u64 (a.nth j)),H):=ix_one (v:=fun x=>.int .u64 x) Tryz.underlying23 T.ag22 T.sz22 fun _=>rfl
theorem ia23 {H:Hp} {b o:Nat} {k:IntKind} {i:Int}:iaP Mt H 23 (.pointer (some ⟨b,o,none⟩)) (.int k i) = (ck 4 i).map fun j=>(.val (.pointer (some ⟨b,o + j * 1,none⟩)),H):=ia_arr Tryz.underlying23 T.sz22
theorem ia206 {H:Hp} {b o:Nat} {k:IntKind} {i:Int}:iaP Mt H 206 (.pointer (some ⟨b,o,none⟩)) (.int k i) = (ck 64 i).map fun j=>(.val (.pointer (some ⟨b,o + j * 1,none⟩)),H):=ia_arr Tryz.underlying206 T.sz5
theorem ia35 {H:Hp} {b:Nat} {x:(Sl ast_Node)} {k:IntKind} {i:Int}:iaP Mt H 35 (slV x b) (.int k i) = (ck (Sl.l x).length i).map fun j=>(.val (.pointer (some ⟨b,j * 12,none⟩)),H):=ia_sl Tryz.underlying35 T.sz72
theorem ln35 {b:Nat} {x:(Sl ast_Node)}:lenA Mt.P 35 (slV x b) = some (.int .i64 (Sl.len x)):=len_sl Tryz.underlying35
theorem ia100 {H:Hp} {b:Nat} {x:(Sl Int)} {k:IntKind} {i:Int}:iaP Mt H 100 (slV x b) (.int k i) = (ck (Sl.l x).length i).map fun j=>(.val (.pointer (some ⟨b,j * 1,none⟩)),H):=ia_sl Tryz.underlying100 T.sz3
theorem ln100 {b:Nat} {x:(Sl Int)}:lenA Mt.P 100 (slV x b) = some (.int .i64 (Sl.len x)):=len_sl Tryz.underlying100
theorem ia108 {H:Hp} {b:Nat} {x:(Sl facts_known)} {k:IntKind} {i:Int}:iaP Mt H 108 (slV x b) (.int k i) = (ck (Sl.l x).length i).map fun j=>(.val (.pointer (some ⟨b,j * 9,none⟩)),H):=ia_sl Tryz.underlying108 T.sz107
theorem pl37:plO Tryz.prog 37 = some [(0,1)]:=by kernel_rfl
theorem fd37_0:fdO Tryz.prog 37 0 = some (35,0):=by kernel_rfl
theorem fa37_0 {H:Hp} {b o:Nat}:faP Mt H 37 0 (.pointer (some ⟨b,o,none⟩)) = some (.val (.pointer (some ⟨b,o + 0,none⟩)),H):=fa_ok fd37_0 T.sz35
theorem zs3:zc Mt.P 3 = some ((cInt .i64) 0):=T.zc3
theorem zs5:zc Mt.P 5 = some ((cInt .u8) 0):=T.zc5
theorem eqt23:EqT Tryz.prog 23 (fun x=>vAgg ((cArr (n:=4) (cInt .u64)) x)) 2:=eqt_arr (e:=22) Tryz.underlying23 T.sz22 enc_int (eqt_int (k:=.u64) Tryz.underlying22) (.inr ⟨T.ag22,fun _=>rfl⟩)
theorem eqt25:EqT Tryz.prog 25 (fun x=>vAgg (class_Set.c x)) 3:=fun d hd x y=>by
 obtain ⟨d,rfl⟩:∃ m,d = m + 1:=⟨d - 1,by omega⟩
 have e:decide (x = y) = (decide (x.f_W = y.f_W) && true):=by
  obtain ⟨a0⟩:=x; obtain ⟨b0⟩:=y
  simp [Bool.decide_and]
 rw [e]
 refine (pr_struct Tryz.underlying25 (by kernel_rfl) d _ _).trans ?_
 exact eqF_cons (by decide) (pr_part_agg T.ag23 (by rw [((enc_arr (n:=4) enc_int)).len]; exact T.sz23) (class_Set.seg0 _)) (pr_part_agg T.ag23 (by rw [((enc_arr (n:=4) enc_int)).len]; exact T.sz23) (class_Set.seg0 _)) (eqt23 d (by omega) _ _) (eqF_nil)
theorem eqt54:EqT Tryz.prog 54 (fun x=>vAgg (facts_Facts.c x)) 4:=fun d hd x y=>by
 obtain ⟨d,rfl⟩:∃ m,d = m + 1:=⟨d - 1,by omega⟩
 have e:decide (x = y) = (decide (x.f_First = y.f_First) && (decide (x.f_Open = y.f_Open) && (decide (x.f_Fast = y.f_Fast) && (decide (x.f_Prefix = y.f_Prefix) && true)))):=by
  obtain ⟨a0,a1,a2,a3⟩:=x; obtain ⟨b0,b1,b2,b3⟩:=y
  simp [Bool.decide_and]
 rw [e]
 refine (pr_struct Tryz.underlying54 (by kernel_rfl) d _ _).trans ?_
 exact eqF_cons (by decide) (pr_part_agg T.ag25 (by rw [(class_Set.enc).len]; exact T.sz25) (facts_Facts.seg0 _)) (pr_part_agg T.ag25 (by rw [(class_Set.enc).len]; exact T.sz25) (facts_Facts.seg0 _)) (eqt25 d (by omega) _ _) (eqF_cons (by decide) (pr_part_one T.ag4 (facts_Facts.seg1 _)) (pr_part_one T.ag4 (facts_Facts.seg1 _)) ((eqt_bool Tryz.underlying4) d (by omega) _ _) (eqF_cons (by decide) (pr_part_one T.ag4 (facts_Facts.seg2 _)) (pr_part_one T.ag4 (facts_Facts.seg2 _)) ((eqt_bool Tryz.underlying4) d (by omega) _ _) (eqF_cons (by decide) (pr_part_one T.ag9 (facts_Facts.seg3 _)) (pr_part_one T.ag9 (facts_Facts.seg3 _)) ((eqt_str Tryz.underlying9) d (by omega) _ _) (eqF_nil))))
theorem eql54 {ox oy:Operand} {a b:facts_Facts}:binA Mt.P .eql 54 ox oy (vAgg (facts_Facts.c a)) (vAgg (facts_Facts.c b)) = some (.bool (decide (a = b))):=eqA_agg facts_Facts.enc eqt54 (by decide) (by kernel_rfl)
theorem eqt72:EqT Tryz.prog 72 (fun x=>vAgg (ast_Node.c x)) 4:=fun d hd x y=>by
 obtain ⟨d,rfl⟩:∃ m,d = m + 1:=⟨d - 1,by omega⟩
 have e:decide (x = y) = (decide (x.f_Kind = y.f_Kind) && (decide (x.f_A = y.f_A) && (decide (x.f_B = y.f_B) && (decide (x.f_Set = y.f_Set) && (decide (x.f_Min = y.f_Min) && (decide (x.f_Max = y.f_Max) && (decide (x.f_Mode = y.f_Mode) && (decide (x.f_N = y.f_N) && (decide (x.f_Fold = y.f_Fold) && true))))))))):=by
  obtain ⟨a0,a1,a2,a3,a4,a5,a6,a7,a8⟩:=x; obtain ⟨b0,b1,b2,b3,b4,b5,b6,b7,b8⟩:=y
  simp [Bool.decide_and]
 rw [e]
 refine (pr_struct Tryz.underlying72 (by kernel_rfl) d _ _).trans ?_
 exact eqF_cons (by decide) (pr_part_one T.ag3 (ast_Node.seg0 _)) (pr_part_one T.ag3 (ast_Node.seg0 _)) ((eqt_int (k:=.i64) Tryz.underlying3) d (by omega) _ _) (eqF_cons (by decide) (pr_part_one T.ag3 (ast_Node.seg1 _)) (pr_part_one T.ag3 (ast_Node.seg1 _)) ((eqt_int (k:=.i64) Tryz.underlying3) d (by omega) _ _) (eqF_cons (by decide) (pr_part_one T.ag3 (ast_Node.seg2 _)) (pr_part_one T.ag3 (ast_Node.seg2 _)) ((eqt_int (k:=.i64) Tryz.underlying3) d (by omega) _ _) (eqF_cons (by decide) (pr_part_agg T.ag25 (by rw [(class_Set.enc).len]; exact T.sz25) (ast_Node.seg3 _)) (pr_part_agg T.ag25 (by rw [(class_Set.enc).len]; exact T.sz25) (ast_Node.seg3 _)) (eqt25 d (by omega) _ _) (eqF_cons (by decide) (pr_part_one T.ag3 (ast_Node.seg4 _)) (pr_part_one T.ag3 (ast_Node.seg4 _)) ((eqt_int (k:=.i64) Tryz.underlying3) d (by omega) _ _) (eqF_cons (by decide) (pr_part_one T.ag3 (ast_Node.seg5 _)) (pr_part_one T.ag3 (ast_Node.seg5 _)) ((eqt_int (k:=.i64) Tryz.underlying3) d (by omega) _ _) (eqF_cons (by decide) (pr_part_one T.ag3 (ast_Node.seg6 _)) (pr_part_one T.ag3 (ast_Node.seg6 _)) ((eqt_int (k:=.i64) Tryz.underlying3) d (by omega) _ _) (eqF_cons (by decide) (pr_part_one T.ag3 (ast_Node.seg7 _)) (pr_part_one T.ag3 (ast_Node.seg7 _)) ((eqt_int (k:=.i64) Tryz.underlying3) d (by omega) _ _) (eqF_cons (by decide) (pr_part_one T.ag4 (ast_Node.seg8 _)) (pr_part_one T.ag4 (ast_Node.seg8 _)) ((eqt_bool Tryz.underlying4) d (by omega) _ _) (eqF_nil)))))))))
theorem neq72 {ox oy:Operand} {a b:ast_Node}:binA Mt.P .neq 72 ox oy (vAgg (ast_Node.c a)) (vAgg (ast_Node.c b)) = some (.bool (!decide (a = b))):=neA_agg ast_Node.enc eqt72 (by decide) (by kernel_rfl)
end Go.Proofs.YtaadjlpfdajggaaGreatDoor
