import Derived.Test.YtcjnmmeibppblaaDoorTeTypes
import Derived.Test.YtcjnmmeibppblaaDoorTeAm21
import Derived.Test.YtcjnmmeibppblaaDoorTeMach
set_option maxRecDepth 100000
set_option linter.unusedVariables false
set_option linter.unusedSimpArgs false
namespace Go.Proofs.YtcjnmmeibppblaaDoor
open Go Go.AM
structure class_Set where
 f_W:(Arr Int 4)
 deriving DecidableEq,Inhabited
def class_Set.c (x:class_Set):List Value:=(cArr (n:=4) (cInt .u64)) x.f_W
theorem class_Set.enc:Enc class_Set.c 4 where
 len x:=by simp only [class_Set.c,List.length_append,((enc_arr (n:=4) enc_int)).len]
 one x v hv:=((enc_arr (n:=4) enc_int)).one _ v hv
 flat x v hv:=((enc_arr (n:=4) enc_int)).flat _ v hv
 inj a b h:=by
  have e0:=((enc_arr (n:=4) enc_int)).inj _ _ h
  obtain ⟨a0⟩:=a
  obtain ⟨b0⟩:=b
  dsimp only at e0
  subst e0
  rfl
def class_Set.zero:class_Set:=⟨(Arr.rep 4 0)⟩
theorem class_Set.seg0 (x:class_Set):Seg (class_Set.c x) 0 ((cArr (n:=4) (cInt .u64)) x.f_W):=Seg.refl
theorem class_Set.wr0 (x:class_Set) (y:(Arr Int 4)):wrs (class_Set.c x) 0 ((cArr (n:=4) (cInt .u64)) y) = class_Set.c { x with f_W:=y }:=wrs_all (by unfold class_Set.c; rw [((enc_arr (n:=4) enc_int)).len,((enc_arr (n:=4) enc_int)).len])
theorem zs36:zc Mt.P 36 = some (class_Set.c class_Set.zero):=T.zc36
theorem pl36:plO Tryd.prog 36 = some [(0,4)]:=by kernel_rfl
theorem fd36_0:fdO Tryd.prog 36 0 = some (34,0):=by kernel_rfl
theorem fa36_0 {H:Hp} {b o:Nat}:faP Mt H 36 0 (.pointer (some ⟨b,o,none⟩)) = some (.val (.pointer (some ⟨b,o + 0,none⟩)),H):=fa_ok fd36_0 T.sz34
structure lex_Token where
 f_Kind:Int
 f_Set:class_Set
 f_Min:Int
 f_Max:Int
 f_Mode:Int
 f_N:Int
 f_Flags:ByteArray
 deriving DecidableEq,Inhabited
def lex_Token.c (x:lex_Token):List Value:=(cInt .i64) x.f_Kind ++ (class_Set.c x.f_Set ++ ((cInt .i64) x.f_Min ++ ((cInt .i64) x.f_Max ++ ((cInt .i64) x.f_Mode ++ ((cInt .i64) x.f_N ++ (cStr x.f_Flags))))))
theorem lex_Token.enc:Enc lex_Token.c 10 where
 len x:=by simp only [lex_Token.c,List.length_append,(enc_int).len,(class_Set.enc).len,(enc_str).len]
 one x v hv:=by
  simp only [lex_Token.c,List.mem_append] at hv
  rcases hv with hv | hv | hv | hv | hv | hv | hv
  ·exact (enc_int).one _ v hv
  ·exact (class_Set.enc).one _ v hv
  ·exact (enc_int).one _ v hv
  ·exact (enc_int).one _ v hv
  ·exact (enc_int).one _ v hv
  ·exact (enc_int).one _ v hv
  ·exact (enc_str).one _ v hv
 flat x v hv:=by
  simp only [lex_Token.c,List.mem_append] at hv
  rcases hv with hv | hv | hv | hv | hv | hv | hv
  ·exact (enc_int).flat _ v hv
  ·exact (class_Set.enc).flat _ v hv
  ·exact (enc_int).flat _ v hv
  ·exact (enc_int).flat _ v hv
  ·exact (enc_int).flat _ v hv
  ·exact (enc_int).flat _ v hv
  ·exact (enc_str).flat _ v hv
 inj a b h:=by
  simp only [lex_Token.c] at h
  obtain ⟨h0,h⟩:=List.append_inj h (by rw [(enc_int).len,(enc_int).len])
  obtain ⟨h1,h⟩:=List.append_inj h (by rw [(class_Set.enc).len,(class_Set.enc).len])
  obtain ⟨h2,h⟩:=List.append_inj h (by rw [(enc_int).len,(enc_int).len])
  obtain ⟨h3,h⟩:=List.append_inj h (by rw [(enc_int).len,(enc_int).len])
  obtain ⟨h4,h⟩:=List.append_inj h (by rw [(enc_int).len,(enc_int).len])
  obtain ⟨h5,h⟩:=List.append_inj h (by rw [(enc_int).len,(enc_int).len])
  have e6:=(enc_str).inj _ _ h
  have e0:=(enc_int).inj _ _ h0
  have e1:=(class_Set.enc).inj _ _ h1
  have e2:=(enc_int).inj _ _ h2
  have e3:=(enc_int).inj _ _ h3
  have e4:=(enc_int).inj _ _ h4
  have e5:=(enc_int).inj _ _ h5
  obtain ⟨a0,a1,a2,a3,a4,a5,a6⟩:=a
  obtain ⟨b0,b1,b2,b3,b4,b5,b6⟩:=b
  dsimp only at e0 e1 e2 e3 e4 e5 e6
  subst e0 e1 e2 e3 e4 e5 e6
  rfl
def lex_Token.zero:lex_Token:=⟨0,class_Set.zero,0,0,0,0,⟨#[]⟩⟩
theorem lex_Token.seg0 (x:lex_Token):Seg (lex_Token.c x) 0 ((cInt .i64) x.f_Kind):=seg_begin
theorem lex_Token.wr0 (x:lex_Token) (y:Int):wrs (lex_Token.c x) 0 ((cInt .i64) y) = lex_Token.c { x with f_Kind:=y }:=wrs_begin (by rw [(enc_int).len,(enc_int).len])
theorem lex_Token.seg1 (x:lex_Token):Seg (lex_Token.c x) 1 (class_Set.c x.f_Set):=by
 have h:lex_Token.c x = ((cInt .i64) x.f_Kind) ++ (class_Set.c x.f_Set ++ ((cInt .i64) x.f_Min ++ ((cInt .i64) x.f_Max ++ ((cInt .i64) x.f_Mode ++ ((cInt .i64) x.f_N ++ (cStr x.f_Flags)))))):=by simp only [lex_Token.c,List.append_assoc]
 rw [h]; exact seg_mid (by simp only [List.length_append,(enc_int).len,(class_Set.enc).len,(enc_str).len])
theorem lex_Token.wr1 (x:lex_Token) (y:class_Set):wrs (lex_Token.c x) 1 (class_Set.c y) = lex_Token.c { x with f_Set:=y }:=by
 have h:lex_Token.c x = ((cInt .i64) x.f_Kind) ++ (class_Set.c x.f_Set ++ ((cInt .i64) x.f_Min ++ ((cInt .i64) x.f_Max ++ ((cInt .i64) x.f_Mode ++ ((cInt .i64) x.f_N ++ (cStr x.f_Flags)))))):=by simp only [lex_Token.c,List.append_assoc]
 rw [h,wrs_mid (by simp only [List.length_append,(enc_int).len,(class_Set.enc).len,(enc_str).len]) (by rw [(class_Set.enc).len,(class_Set.enc).len])]; simp only [lex_Token.c,List.append_assoc]
theorem lex_Token.seg2 (x:lex_Token):Seg (lex_Token.c x) 5 ((cInt .i64) x.f_Min):=by
 have h:lex_Token.c x = (((cInt .i64) x.f_Kind) ++ class_Set.c x.f_Set) ++ ((cInt .i64) x.f_Min ++ ((cInt .i64) x.f_Max ++ ((cInt .i64) x.f_Mode ++ ((cInt .i64) x.f_N ++ (cStr x.f_Flags))))):=by simp only [lex_Token.c,List.append_assoc]
 rw [h]; exact seg_mid (by simp only [List.length_append,(enc_int).len,(class_Set.enc).len,(enc_str).len])
theorem lex_Token.wr2 (x:lex_Token) (y:Int):wrs (lex_Token.c x) 5 ((cInt .i64) y) = lex_Token.c { x with f_Min:=y }:=by
 have h:lex_Token.c x = (((cInt .i64) x.f_Kind) ++ class_Set.c x.f_Set) ++ ((cInt .i64) x.f_Min ++ ((cInt .i64) x.f_Max ++ ((cInt .i64) x.f_Mode ++ ((cInt .i64) x.f_N ++ (cStr x.f_Flags))))):=by simp only [lex_Token.c,List.append_assoc]
 rw [h,wrs_mid (by simp only [List.length_append,(enc_int).len,(class_Set.enc).len,(enc_str).len]) (by rw [(enc_int).len,(enc_int).len])]; simp only [lex_Token.c,List.append_assoc]
theorem lex_Token.seg3 (x:lex_Token):Seg (lex_Token.c x) 6 ((cInt .i64) x.f_Max):=by
 have h:lex_Token.c x = ((((cInt .i64) x.f_Kind) ++ class_Set.c x.f_Set) ++ (cInt .i64) x.f_Min) ++ ((cInt .i64) x.f_Max ++ ((cInt .i64) x.f_Mode ++ ((cInt .i64) x.f_N ++ (cStr x.f_Flags)))):=by simp only [lex_Token.c,List.append_assoc]
 rw [h]; exact seg_mid (by simp only [List.length_append,(enc_int).len,(class_Set.enc).len,(enc_str).len])
theorem lex_Token.wr3 (x:lex_Token) (y:Int):wrs (lex_Token.c x) 6 ((cInt .i64) y) = lex_Token.c { x with f_Max:=y }:=by
 have h:lex_Token.c x = ((((cInt .i64) x.f_Kind) ++ class_Set.c x.f_Set) ++ (cInt .i64) x.f_Min) ++ ((cInt .i64) x.f_Max ++ ((cInt .i64) x.f_Mode ++ ((cInt .i64) x.f_N ++ (cStr x.f_Flags)))):=by simp only [lex_Token.c,List.append_assoc]
 rw [h,wrs_mid (by simp only [List.length_append,(enc_int).len,(class_Set.enc).len,(enc_str).len]) (by rw [(enc_int).len,(enc_int).len])]; simp only [lex_Token.c,List.append_assoc]
theorem lex_Token.seg4 (x:lex_Token):Seg (lex_Token.c x) 7 ((cInt .i64) x.f_Mode):=by
 have h:lex_Token.c x = (((((cInt .i64) x.f_Kind) ++ class_Set.c x.f_Set) ++ (cInt .i64) x.f_Min) ++ (cInt .i64) x.f_Max) ++ ((cInt .i64) x.f_Mode ++ ((cInt .i64) x.f_N ++ (cStr x.f_Flags))):=by simp only [lex_Token.c,List.append_assoc]
 rw [h]; exact seg_mid (by simp only [List.length_append,(enc_int).len,(class_Set.enc).len,(enc_str).len])
theorem lex_Token.wr4 (x:lex_Token) (y:Int):wrs (lex_Token.c x) 7 ((cInt .i64) y) = lex_Token.c { x with f_Mode:=y }:=by
 have h:lex_Token.c x = (((((cInt .i64) x.f_Kind) ++ class_Set.c x.f_Set) ++ (cInt .i64) x.f_Min) ++ (cInt .i64) x.f_Max) ++ ((cInt .i64) x.f_Mode ++ ((cInt .i64) x.f_N ++ (cStr x.f_Flags))):=by simp only [lex_Token.c,List.append_assoc]
 rw [h,wrs_mid (by simp only [List.length_append,(enc_int).len,(class_Set.enc).len,(enc_str).len]) (by rw [(enc_int).len,(enc_int).len])]; simp only [lex_Token.c,List.append_assoc]
theorem lex_Token.seg5 (x:lex_Token):Seg (lex_Token.c x) 8 ((cInt .i64) x.f_N):=by
 have h:lex_Token.c x = ((((((cInt .i64) x.f_Kind) ++ class_Set.c x.f_Set) ++ (cInt .i64) x.f_Min) ++ (cInt .i64) x.f_Max) ++ (cInt .i64) x.f_Mode) ++ ((cInt .i64) x.f_N ++ (cStr x.f_Flags)):=by simp only [lex_Token.c,List.append_assoc]
 rw [h]; exact seg_mid (by simp only [List.length_append,(enc_int).len,(class_Set.enc).len,(enc_str).len])
theorem lex_Token.wr5 (x:lex_Token) (y:Int):wrs (lex_Token.c x) 8 ((cInt .i64) y) = lex_Token.c { x with f_N:=y }:=by
 have h:lex_Token.c x = ((((((cInt .i64) x.f_Kind) ++ class_Set.c x.f_Set) ++ (cInt .i64) x.f_Min) ++ (cInt .i64) x.f_Max) ++ (cInt .i64) x.f_Mode) ++ ((cInt .i64) x.f_N ++ (cStr x.f_Flags)):=by simp only [lex_Token.c,List.append_assoc]
 rw [h,wrs_mid (by simp only [List.length_append,(enc_int).len,(class_Set.enc).len,(enc_str).len]) (by rw [(enc_int).len,(enc_int).len])]; simp only [lex_Token.c,List.append_assoc]
theorem lex_Token.seg6 (x:lex_Token):Seg (lex_Token.c x) 9 (cStr x.f_Flags):=by
 have h:lex_Token.c x = (((((((cInt .i64) x.f_Kind) ++ class_Set.c x.f_Set) ++ (cInt .i64) x.f_Min) ++ (cInt .i64) x.f_Max) ++ (cInt .i64) x.f_Mode) ++ (cInt .i64) x.f_N) ++ cStr x.f_Flags:=by simp only [lex_Token.c,List.append_assoc]
 rw [h]; exact seg_end (by simp only [List.length_append,(enc_int).len,(class_Set.enc).len,(enc_str).len])
theorem lex_Token.wr6 (x:lex_Token) (y:ByteArray):wrs (lex_Token.c x) 9 (cStr y) = lex_Token.c { x with f_Flags:=y }:=by
 have h:lex_Token.c x = (((((((cInt .i64) x.f_Kind) ++ class_Set.c x.f_Set) ++ (cInt .i64) x.f_Min) ++ (cInt .i64) x.f_Max) ++ (cInt .i64) x.f_Mode) ++ (cInt .i64) x.f_N) ++ cStr x.f_Flags:=by simp only [lex_Token.c,List.append_assoc]
 rw [h,wrs_end (by simp only [List.length_append,(enc_int).len,(class_Set.enc).len,(enc_str).len]) (by rw [(enc_str).len,(enc_str).len])]; simp only [lex_Token.c,List.append_assoc]
theorem zs46:zc Mt.P 46 = some (lex_Token.c lex_Token.zero):=T.zc46
theorem pl46:plO Tryd.prog 46 = some [(0,1),(1,4),(5,1),(6,1),(7,1),(8,1),(9,1)]:=by kernel_rfl
theorem fd46_0:fdO Tryd.prog 46 0 = some (3,0):=by kernel_rfl
theorem fa46_0 {H:Hp} {b o:Nat}:faP Mt H 46 0 (.pointer (some ⟨b,o,none⟩)) = some (.val (.pointer (some ⟨b,o + 0,none⟩)),H):=fa_ok fd46_0 T.sz3
theorem fd46_1:fdO Tryd.prog 46 1 = some (36,1):=by kernel_rfl
theorem fa46_1 {H:Hp} {b o:Nat}:faP Mt H 46 1 (.pointer (some ⟨b,o,none⟩)) = some (.val (.pointer (some ⟨b,o + 1,none⟩)),H):=fa_ok fd46_1 T.sz36
theorem fd46_2:fdO Tryd.prog 46 2 = some (3,5):=by kernel_rfl
theorem fa46_2 {H:Hp} {b o:Nat}:faP Mt H 46 2 (.pointer (some ⟨b,o,none⟩)) = some (.val (.pointer (some ⟨b,o + 5,none⟩)),H):=fa_ok fd46_2 T.sz3
theorem fd46_3:fdO Tryd.prog 46 3 = some (3,6):=by kernel_rfl
theorem fa46_3 {H:Hp} {b o:Nat}:faP Mt H 46 3 (.pointer (some ⟨b,o,none⟩)) = some (.val (.pointer (some ⟨b,o + 6,none⟩)),H):=fa_ok fd46_3 T.sz3
theorem fd46_4:fdO Tryd.prog 46 4 = some (3,7):=by kernel_rfl
theorem fa46_4 {H:Hp} {b o:Nat}:faP Mt H 46 4 (.pointer (some ⟨b,o,none⟩)) = some (.val (.pointer (some ⟨b,o + 7,none⟩)),H):=fa_ok fd46_4 T.sz3
theorem fd46_5:fdO Tryd.prog 46 5 = some (3,8):=by kernel_rfl
theorem fa46_5 {H:Hp} {b o:Nat}:faP Mt H 46 5 (.pointer (some ⟨b,o,none⟩)) = some (.val (.pointer (some ⟨b,o + 8,none⟩)),H):=fa_ok fd46_5 T.sz3
theorem fd46_6:fdO Tryd.prog 46 6 = some (9,9):=by kernel_rfl
theorem fa46_6 {H:Hp} {b o:Nat}:faP Mt H 46 6 (.pointer (some ⟨b,o,none⟩)) = some (.val (.pointer (some ⟨b,o + 9,none⟩)),H):=fa_ok fd46_6 T.sz9
structure ref06_Token where
 f_Kind:Int
 f_Set:(Arr Int 4)
 f_Min:Int
 f_Max:Int
 f_Mode:Int
 f_N:Int
 f_Flags:ByteArray
 deriving DecidableEq,Inhabited
def ref06_Token.c (x:ref06_Token):List Value:=(cInt .i64) x.f_Kind ++ ((cArr (n:=4) (cInt .u64)) x.f_Set ++ ((cInt .i64) x.f_Min ++ ((cInt .i64) x.f_Max ++ ((cInt .i64) x.f_Mode ++ ((cInt .i64) x.f_N ++ (cStr x.f_Flags))))))
theorem ref06_Token.enc:Enc ref06_Token.c 10 where
 len x:=by simp only [ref06_Token.c,List.length_append,(enc_int).len,((enc_arr (n:=4) enc_int)).len,(enc_str).len]
 one x v hv:=by
  simp only [ref06_Token.c,List.mem_append] at hv
  rcases hv with hv | hv | hv | hv | hv | hv | hv
  ·exact (enc_int).one _ v hv
  ·exact ((enc_arr (n:=4) enc_int)).one _ v hv
  ·exact (enc_int).one _ v hv
  ·exact (enc_int).one _ v hv
  ·exact (enc_int).one _ v hv
  ·exact (enc_int).one _ v hv
  ·exact (enc_str).one _ v hv
 flat x v hv:=by
  simp only [ref06_Token.c,List.mem_append] at hv
  rcases hv with hv | hv | hv | hv | hv | hv | hv
  ·exact (enc_int).flat _ v hv
  ·exact ((enc_arr (n:=4) enc_int)).flat _ v hv
  ·exact (enc_int).flat _ v hv
  ·exact (enc_int).flat _ v hv
  ·exact (enc_int).flat _ v hv
  ·exact (enc_int).flat _ v hv
  ·exact (enc_str).flat _ v hv
 inj a b h:=by
  simp only [ref06_Token.c] at h
  obtain ⟨h0,h⟩:=List.append_inj h (by rw [(enc_int).len,(enc_int).len])
  obtain ⟨h1,h⟩:=List.append_inj h (by rw [((enc_arr (n:=4) enc_int)).len,((enc_arr (n:=4) enc_int)).len])
  obtain ⟨h2,h⟩:=List.append_inj h (by rw [(enc_int).len,(enc_int).len])
  obtain ⟨h3,h⟩:=List.append_inj h (by rw [(enc_int).len,(enc_int).len])
  obtain ⟨h4,h⟩:=List.append_inj h (by rw [(enc_int).len,(enc_int).len])
  obtain ⟨h5,h⟩:=List.append_inj h (by rw [(enc_int).len,(enc_int).len])
  have e6:=(enc_str).inj _ _ h
  have e0:=(enc_int).inj _ _ h0
  have e1:=((enc_arr (n:=4) enc_int)).inj _ _ h1
  have e2:=(enc_int).inj _ _ h2
  have e3:=(enc_int).inj _ _ h3
  have e4:=(enc_int).inj _ _ h4
  have e5:=(enc_int).inj _ _ h5
  obtain ⟨a0,a1,a2,a3,a4,a5,a6⟩:=a
  obtain ⟨b0,b1,b2,b3,b4,b5,b6⟩:=b
  dsimp only at e0 e1 e2 e3 e4 e5 e6
  subst e0 e1 e2 e3 e4 e5 e6
  rfl
def ref06_Token.zero:ref06_Token:=⟨0,(Arr.rep 4 0),0,0,0,0,⟨#[]⟩⟩
theorem ref06_Token.seg0 (x:ref06_Token):Seg (ref06_Token.c x) 0 ((cInt .i64) x.f_Kind):=seg_begin
theorem ref06_Token.wr0 (x:ref06_Token) (y:Int):wrs (ref06_Token.c x) 0 ((cInt .i64) y) = ref06_Token.c { x with f_Kind:=y }:=wrs_begin (by rw [(enc_int).len,(enc_int).len])
theorem ref06_Token.seg1 (x:ref06_Token):Seg (ref06_Token.c x) 1 ((cArr (n:=4) (cInt .u64)) x.f_Set):=by
 have h:ref06_Token.c x = ((cInt .i64) x.f_Kind) ++ ((cArr (n:=4) (cInt .u64)) x.f_Set ++ ((cInt .i64) x.f_Min ++ ((cInt .i64) x.f_Max ++ ((cInt .i64) x.f_Mode ++ ((cInt .i64) x.f_N ++ (cStr x.f_Flags)))))):=by simp only [ref06_Token.c,List.append_assoc]
 rw [h]; exact seg_mid (by simp only [List.length_append,(enc_int).len,((enc_arr (n:=4) enc_int)).len,(enc_str).len])
theorem ref06_Token.wr1 (x:ref06_Token) (y:(Arr Int 4)):wrs (ref06_Token.c x) 1 ((cArr (n:=4) (cInt .u64)) y) = ref06_Token.c { x with f_Set:=y }:=by
 have h:ref06_Token.c x = ((cInt .i64) x.f_Kind) ++ ((cArr (n:=4) (cInt .u64)) x.f_Set ++ ((cInt .i64) x.f_Min ++ ((cInt .i64) x.f_Max ++ ((cInt .i64) x.f_Mode ++ ((cInt .i64) x.f_N ++ (cStr x.f_Flags)))))):=by simp only [ref06_Token.c,List.append_assoc]
 rw [h,wrs_mid (by simp only [List.length_append,(enc_int).len,((enc_arr (n:=4) enc_int)).len,(enc_str).len]) (by rw [((enc_arr (n:=4) enc_int)).len,((enc_arr (n:=4) enc_int)).len])]; simp only [ref06_Token.c,List.append_assoc]
theorem ref06_Token.seg2 (x:ref06_Token):Seg (ref06_Token.c x) 5 ((cInt .i64) x.f_Min):=by
 have h:ref06_Token.c x = (((cInt .i64) x.f_Kind) ++ (cArr (n:=4) (cInt .u64)) x.f_Set) ++ ((cInt .i64) x.f_Min ++ ((cInt .i64) x.f_Max ++ ((cInt .i64) x.f_Mode ++ ((cInt .i64) x.f_N ++ (cStr x.f_Flags))))):=by simp only [ref06_Token.c,List.append_assoc]
 rw [h]; exact seg_mid (by simp only [List.length_append,(enc_int).len,((enc_arr (n:=4) enc_int)).len,(enc_str).len])
theorem ref06_Token.wr2 (x:ref06_Token) (y:Int):wrs (ref06_Token.c x) 5 ((cInt .i64) y) = ref06_Token.c { x with f_Min:=y }:=by
 have h:ref06_Token.c x = (((cInt .i64) x.f_Kind) ++ (cArr (n:=4) (cInt .u64)) x.f_Set) ++ ((cInt .i64) x.f_Min ++ ((cInt .i64) x.f_Max ++ ((cInt .i64) x.f_Mode ++ ((cInt .i64) x.f_N ++ (cStr x.f_Flags))))):=by simp only [ref06_Token.c,List.append_assoc]
 rw [h,wrs_mid (by simp only [List.length_append,(enc_int).len,((enc_arr (n:=4) enc_int)).len,(enc_str).len]) (by rw [(enc_int).len,(enc_int).len])]; simp only [ref06_Token.c,List.append_assoc]
theorem ref06_Token.seg3 (x:ref06_Token):Seg (ref06_Token.c x) 6 ((cInt .i64) x.f_Max):=by
 have h:ref06_Token.c x = ((((cInt .i64) x.f_Kind) ++ (cArr (n:=4) (cInt .u64)) x.f_Set) ++ (cInt .i64) x.f_Min) ++ ((cInt .i64) x.f_Max ++ ((cInt .i64) x.f_Mode ++ ((cInt .i64) x.f_N ++ (cStr x.f_Flags)))):=by simp only [ref06_Token.c,List.append_assoc]
 rw [h]; exact seg_mid (by simp only [List.length_append,(enc_int).len,((enc_arr (n:=4) enc_int)).len,(enc_str).len])
theorem ref06_Token.wr3 (x:ref06_Token) (y:Int):wrs (ref06_Token.c x) 6 ((cInt .i64) y) = ref06_Token.c { x with f_Max:=y }:=by
 have h:ref06_Token.c x = ((((cInt .i64) x.f_Kind) ++ (cArr (n:=4) (cInt .u64)) x.f_Set) ++ (cInt .i64) x.f_Min) ++ ((cInt .i64) x.f_Max ++ ((cInt .i64) x.f_Mode ++ ((cInt .i64) x.f_N ++ (cStr x.f_Flags)))):=by simp only [ref06_Token.c,List.append_assoc]
 rw [h,wrs_mid (by simp only [List.length_append,(enc_int).len,((enc_arr (n:=4) enc_int)).len,(enc_str).len]) (by rw [(enc_int).len,(enc_int).len])]; simp only [ref06_Token.c,List.append_assoc]
theorem ref06_Token.seg4 (x:ref06_Token):Seg (ref06_Token.c x) 7 ((cInt .i64) x.f_Mode):=by
 have h:ref06_Token.c x = (((((cInt .i64) x.f_Kind) ++ (cArr (n:=4) (cInt .u64)) x.f_Set) ++ (cInt .i64) x.f_Min) ++ (cInt .i64) x.f_Max) ++ ((cInt .i64) x.f_Mode ++ ((cInt .i64) x.f_N ++ (cStr x.f_Flags))):=by simp only [ref06_Token.c,List.append_assoc]
 rw [h]; exact seg_mid (by simp only [List.length_append,(enc_int).len,((enc_arr (n:=4) enc_int)).len,(enc_str).len])
theorem ref06_Token.wr4 (x:ref06_Token) (y:Int):wrs (ref06_Token.c x) 7 ((cInt .i64) y) = ref06_Token.c { x with f_Mode:=y }:=by
 have h:ref06_Token.c x = (((((cInt .i64) x.f_Kind) ++ (cArr (n:=4) (cInt .u64)) x.f_Set) ++ (cInt .i64) x.f_Min) ++ (cInt .i64) x.f_Max) ++ ((cInt .i64) x.f_Mode ++ ((cInt .i64) x.f_N ++ (cStr x.f_Flags))):=by simp only [ref06_Token.c,List.append_assoc]
 rw [h,wrs_mid (by simp only [List.length_append,(enc_int).len,((enc_arr (n:=4) enc_int)).len,(enc_str).len]) (by rw [(enc_int).len,(enc_int).len])]; simp only [ref06_Token.c,List.append_assoc]
theorem ref06_Token.seg5 (x:ref06_Token):Seg (ref06_Token.c x) 8 ((cInt .i64) x.f_N):=by
 have h:ref06_Token.c x = ((((((cInt .i64) x.f_Kind) ++ (cArr (n:=4) (cInt .u64)) x.f_Set) ++ (cInt .i64) x.f_Min) ++ (cInt .i64) x.f_Max) ++ (cInt .i64) x.f_Mode) ++ ((cInt .i64) x.f_N ++ (cStr x.f_Flags)):=by simp only [ref06_Token.c,List.append_assoc]
 rw [h]; exact seg_mid (by simp only [List.length_append,(enc_int).len,((enc_arr (n:=4) enc_int)).len,(enc_str).len])
theorem ref06_Token.wr5 (x:ref06_Token) (y:Int):wrs (ref06_Token.c x) 8 ((cInt .i64) y) = ref06_Token.c { x with f_N:=y }:=by
 have h:ref06_Token.c x = ((((((cInt .i64) x.f_Kind) ++ (cArr (n:=4) (cInt .u64)) x.f_Set) ++ (cInt .i64) x.f_Min) ++ (cInt .i64) x.f_Max) ++ (cInt .i64) x.f_Mode) ++ ((cInt .i64) x.f_N ++ (cStr x.f_Flags)):=by simp only [ref06_Token.c,List.append_assoc]
 rw [h,wrs_mid (by simp only [List.length_append,(enc_int).len,((enc_arr (n:=4) enc_int)).len,(enc_str).len]) (by rw [(enc_int).len,(enc_int).len])]; simp only [ref06_Token.c,List.append_assoc]
theorem ref06_Token.seg6 (x:ref06_Token):Seg (ref06_Token.c x) 9 (cStr x.f_Flags):=by
 have h:ref06_Token.c x = (((((((cInt .i64) x.f_Kind) ++ (cArr (n:=4) (cInt .u64)) x.f_Set) ++ (cInt .i64) x.f_Min) ++ (cInt .i64) x.f_Max) ++ (cInt .i64) x.f_Mode) ++ (cInt .i64) x.f_N) ++ cStr x.f_Flags:=by simp only [ref06_Token.c,List.append_assoc]
 rw [h]; exact seg_end (by simp only [List.length_append,(enc_int).len,((enc_arr (n:=4) enc_int)).len,(enc_str).len])
theorem ref06_Token.wr6 (x:ref06_Token) (y:ByteArray):wrs (ref06_Token.c x) 9 (cStr y) = ref06_Token.c { x with f_Flags:=y }:=by
 have h:ref06_Token.c x = (((((((cInt .i64) x.f_Kind) ++ (cArr (n:=4) (cInt .u64)) x.f_Set) ++ (cInt .i64) x.f_Min) ++ (cInt .i64) x.f_Max) ++ (cInt .i64) x.f_Mode) ++ (cInt .i64) x.f_N) ++ cStr x.f_Flags:=by simp only [ref06_Token.c,List.append_assoc]
 rw [h,wrs_end (by simp only [List.length_append,(enc_int).len,((enc_arr (n:=4) enc_int)).len,(enc_str).len]) (by rw [(enc_str).len,(enc_str).len])]; simp only [ref06_Token.c,List.append_assoc]
theorem zs59:zc Mt.P 59 = some (ref06_Token.c ref06_Token.zero):=T.zc59
theorem pl59:plO Tryd.prog 59 = some [(0,1),(1,4),(5,1),(6,1),(7,1),(8,1),(9,1)]:=by kernel_rfl
theorem fd59_2:fdO Tryd.prog 59 2 = some (3,5):=by kernel_rfl
theorem fa59_2 {H:Hp} {b o:Nat}:faP Mt H 59 2 (.pointer (some ⟨b,o,none⟩)) = some (.val (.pointer (some ⟨b,o + 5,none⟩)),H):=fa_ok fd59_2 T.sz3
theorem fd59_3:fdO Tryd.prog 59 3 = some (3,6):=by kernel_rfl
theorem fa59_3 {H:Hp} {b o:Nat}:faP Mt H 59 3 (.pointer (some ⟨b,o,none⟩)) = some (.val (.pointer (some ⟨b,o + 6,none⟩)),H):=fa_ok fd59_3 T.sz3
theorem fd59_4:fdO Tryd.prog 59 4 = some (3,7):=by kernel_rfl
theorem fa59_4 {H:Hp} {b o:Nat}:faP Mt H 59 4 (.pointer (some ⟨b,o,none⟩)) = some (.val (.pointer (some ⟨b,o + 7,none⟩)),H):=fa_ok fd59_4 T.sz3
structure ref01_Set where
 f_In:(Arr Bool 256)
 deriving DecidableEq,Inhabited
def ref01_Set.c (x:ref01_Set):List Value:=(cArr (n:=256) cBool) x.f_In
theorem ref01_Set.enc:Enc ref01_Set.c 256 where
 len x:=by simp only [ref01_Set.c,List.length_append,((enc_arr (n:=256) enc_bool)).len]
 one x v hv:=((enc_arr (n:=256) enc_bool)).one _ v hv
 flat x v hv:=((enc_arr (n:=256) enc_bool)).flat _ v hv
 inj a b h:=by
  have e0:=((enc_arr (n:=256) enc_bool)).inj _ _ h
  obtain ⟨a0⟩:=a
  obtain ⟨b0⟩:=b
  dsimp only at e0
  subst e0
  rfl
def ref01_Set.zero:ref01_Set:=⟨(Arr.rep 256 false)⟩
theorem ref01_Set.seg0 (x:ref01_Set):Seg (ref01_Set.c x) 0 ((cArr (n:=256) cBool) x.f_In):=Seg.refl
theorem ref01_Set.wr0 (x:ref01_Set) (y:(Arr Bool 256)):wrs (ref01_Set.c x) 0 ((cArr (n:=256) cBool) y) = ref01_Set.c { x with f_In:=y }:=wrs_all (by unfold ref01_Set.c; rw [((enc_arr (n:=256) enc_bool)).len,((enc_arr (n:=256) enc_bool)).len])
theorem zs68:zc Mt.P 68 = some (ref01_Set.c ref01_Set.zero):=T.zc68
theorem pl68:plO Tryd.prog 68 = some [(0,256)]:=by kernel_rfl
theorem fd68_0:fdO Tryd.prog 68 0 = some (66,0):=by kernel_rfl
theorem fa68_0 {H:Hp} {b o:Nat}:faP Mt H 68 0 (.pointer (some ⟨b,o,none⟩)) = some (.val (.pointer (some ⟨b,o + 0,none⟩)),H):=fa_ok fd68_0 T.sz66
theorem zs34:zc Mt.P 34 = some ((cArr (n:=4) (cInt .u64)) (Arr.rep 4 0)):=T.zc34
theorem ix34 {H:Hp} {a:(Arr Int 4)} {k:IntKind} {i:Int}:idxP Mt H 34 (vAgg ((cArr (n:=4) (cInt .u64)) a)) (.int k i) = (ck 4 i).map fun j=>(.val (.int .u64 (a.nth j)),H):=ix_one (v:=fun x=>.int .u64 x) Tryd.underlying34 T.ag33 T.sz33 fun _=>rfl
theorem ia34 {H:Hp} {b o:Nat} {k:IntKind} {i:Int}:iaP Mt H 34 (.pointer (some ⟨b,o,none⟩)) (.int k i) = (ck 4 i).map fun j=>(.val (.pointer (some ⟨b,o + j * 1,none⟩)),H):=ia_arr Tryd.underlying34 T.sz33
theorem ia66 {H:Hp} {b o:Nat} {k:IntKind} {i:Int}:iaP Mt H 66 (.pointer (some ⟨b,o,none⟩)) (.int k i) = (ck 256 i).map fun j=>(.val (.pointer (some ⟨b,o + j * 1,none⟩)),H):=ia_arr Tryd.underlying66 T.sz4
theorem zs87:zc Mt.P 87 = some ((cArr (n:=5) (cInt .i64)) (Arr.rep 5 0)):=T.zc87
theorem ia87 {H:Hp} {b o:Nat} {k:IntKind} {i:Int}:iaP Mt H 87 (.pointer (some ⟨b,o,none⟩)) (.int k i) = (ck 5 i).map fun j=>(.val (.pointer (some ⟨b,o + j * 1,none⟩)),H):=ia_arr Tryd.underlying87 T.sz3
theorem ix88 {H:Hp} {a:(Arr ByteArray 6)} {k:IntKind} {i:Int}:idxP Mt H 88 (vAgg ((cArr (n:=6) cStr) a)) (.int k i) = (ck 6 i).map fun j=>(.val (.string (a.nth j)),H):=ix_one (v:=fun x=>.string x) Tryd.underlying88 T.ag9 T.sz9 fun _=>rfl
theorem ia100 {H:Hp} {b o:Nat} {k:IntKind} {i:Int}:iaP Mt H 100 (.pointer (some ⟨b,o,none⟩)) (.int k i) = (ck 64 i).map fun j=>(.val (.pointer (some ⟨b,o + j * 1,none⟩)),H):=ia_arr Tryd.underlying100 T.sz5
theorem ia22 {H:Hp} {b:Nat} {x:(Sl lex_Token)} {k:IntKind} {i:Int}:iaP Mt H 22 (slV x b) (.int k i) = (ck (Sl.l x).length i).map fun j=>(.val (.pointer (some ⟨b,j * 10,none⟩)),H):=ia_sl Tryd.underlying22 T.sz46
theorem ln22 {b:Nat} {x:(Sl lex_Token)}:lenA Mt.P 22 (slV x b) = some (.int .i64 (Sl.len x)):=len_sl Tryd.underlying22
theorem ia26 {H:Hp} {b:Nat} {x:(Sl ref06_Token)} {k:IntKind} {i:Int}:iaP Mt H 26 (slV x b) (.int k i) = (ck (Sl.l x).length i).map fun j=>(.val (.pointer (some ⟨b,j * 10,none⟩)),H):=ia_sl Tryd.underlying26 T.sz59
theorem ln26 {b:Nat} {x:(Sl ref06_Token)}:lenA Mt.P 26 (slV x b) = some (.int .i64 (Sl.len x)):=len_sl Tryd.underlying26
theorem ia43 {H:Hp} {b:Nat} {x:(Sl Int)} {k:IntKind} {i:Int}:iaP Mt H 43 (slV x b) (.int k i) = (ck (Sl.l x).length i).map fun j=>(.val (.pointer (some ⟨b,j * 1,none⟩)),H):=ia_sl Tryd.underlying43 T.sz5
theorem ln43 {b:Nat} {x:(Sl Int)}:lenA Mt.P 43 (slV x b) = some (.int .i64 (Sl.len x)):=len_sl Tryd.underlying43
theorem ia52 {H:Hp} {b:Nat} {x:(Sl ByteArray)} {k:IntKind} {i:Int}:iaP Mt H 52 (slV x b) (.int k i) = (ck (Sl.l x).length i).map fun j=>(.val (.pointer (some ⟨b,j * 1,none⟩)),H):=ia_sl Tryd.underlying52 T.sz9
theorem ln52 {b:Nat} {x:(Sl ByteArray)}:lenA Mt.P 52 (slV x b) = some (.int .i64 (Sl.len x)):=len_sl Tryd.underlying52
theorem ia81 {H:Hp} {b:Nat} {x:(Sl Int)} {k:IntKind} {i:Int}:iaP Mt H 81 (slV x b) (.int k i) = (ck (Sl.l x).length i).map fun j=>(.val (.pointer (some ⟨b,j * 1,none⟩)),H):=ia_sl Tryd.underlying81 T.sz3
theorem ia94 {H:Hp} {b:Nat} {x:(Sl ref01_Set)} {k:IntKind} {i:Int}:iaP Mt H 94 (slV x b) (.int k i) = (ck (Sl.l x).length i).map fun j=>(.val (.pointer (some ⟨b,j * 256,none⟩)),H):=ia_sl Tryd.underlying94 T.sz68
theorem zs3:zc Mt.P 3 = some ((cInt .i64) 0):=T.zc3
theorem zs5:zc Mt.P 5 = some ((cInt .u8) 0):=T.zc5
theorem zs9:zc Mt.P 9 = some (cStr ⟨#[]⟩):=T.zc9
theorem eqt34:EqT Tryd.prog 34 (fun x=>vAgg ((cArr (n:=4) (cInt .u64)) x)) 2:=eqt_arr (e:=33) Tryd.underlying34 T.sz33 enc_int (eqt_int (k:=.u64) Tryd.underlying33) (.inr ⟨T.ag33,fun _=>rfl⟩)
theorem eqt36:EqT Tryd.prog 36 (fun x=>vAgg (class_Set.c x)) 3:=fun d hd x y=>by
 obtain ⟨d,rfl⟩:∃ m,d = m + 1:=⟨d - 1,by omega⟩
 have e:decide (x = y) = (decide (x.f_W = y.f_W) && true):=by
  obtain ⟨a0⟩:=x; obtain ⟨b0⟩:=y
  simp [Bool.decide_and]
 rw [e]
 refine (pr_struct Tryd.underlying36 (by kernel_rfl) d _ _).trans ?_
 exact eqF_cons (by decide) (pr_part_agg T.ag34 (by rw [((enc_arr (n:=4) enc_int)).len]; exact T.sz34) (class_Set.seg0 _)) (pr_part_agg T.ag34 (by rw [((enc_arr (n:=4) enc_int)).len]; exact T.sz34) (class_Set.seg0 _)) (eqt34 d (by omega) _ _) (eqF_nil)
theorem eql36 {ox oy:Operand} {a b:class_Set}:binA Mt.P .eql 36 ox oy (vAgg (class_Set.c a)) (vAgg (class_Set.c b)) = some (.bool (decide (a = b))):=eqA_agg class_Set.enc eqt36 (by decide) (by kernel_rfl)
theorem eqt46:EqT Tryd.prog 46 (fun x=>vAgg (lex_Token.c x)) 4:=fun d hd x y=>by
 obtain ⟨d,rfl⟩:∃ m,d = m + 1:=⟨d - 1,by omega⟩
 have e:decide (x = y) = (decide (x.f_Kind = y.f_Kind) && (decide (x.f_Set = y.f_Set) && (decide (x.f_Min = y.f_Min) && (decide (x.f_Max = y.f_Max) && (decide (x.f_Mode = y.f_Mode) && (decide (x.f_N = y.f_N) && (decide (x.f_Flags = y.f_Flags) && true))))))):=by
  obtain ⟨a0,a1,a2,a3,a4,a5,a6⟩:=x; obtain ⟨b0,b1,b2,b3,b4,b5,b6⟩:=y
  simp [Bool.decide_and]
 rw [e]
 refine (pr_struct Tryd.underlying46 (by kernel_rfl) d _ _).trans ?_
 exact eqF_cons (by decide) (pr_part_one T.ag3 (lex_Token.seg0 _)) (pr_part_one T.ag3 (lex_Token.seg0 _)) ((eqt_int (k:=.i64) Tryd.underlying3) d (by omega) _ _) (eqF_cons (by decide) (pr_part_agg T.ag36 (by rw [(class_Set.enc).len]; exact T.sz36) (lex_Token.seg1 _)) (pr_part_agg T.ag36 (by rw [(class_Set.enc).len]; exact T.sz36) (lex_Token.seg1 _)) (eqt36 d (by omega) _ _) (eqF_cons (by decide) (pr_part_one T.ag3 (lex_Token.seg2 _)) (pr_part_one T.ag3 (lex_Token.seg2 _)) ((eqt_int (k:=.i64) Tryd.underlying3) d (by omega) _ _) (eqF_cons (by decide) (pr_part_one T.ag3 (lex_Token.seg3 _)) (pr_part_one T.ag3 (lex_Token.seg3 _)) ((eqt_int (k:=.i64) Tryd.underlying3) d (by omega) _ _) (eqF_cons (by decide) (pr_part_one T.ag3 (lex_Token.seg4 _)) (pr_part_one T.ag3 (lex_Token.seg4 _)) ((eqt_int (k:=.i64) Tryd.underlying3) d (by omega) _ _) (eqF_cons (by decide) (pr_part_one T.ag3 (lex_Token.seg5 _)) (pr_part_one T.ag3 (lex_Token.seg5 _)) ((eqt_int (k:=.i64) Tryd.underlying3) d (by omega) _ _) (eqF_cons (by decide) (pr_part_one T.ag9 (lex_Token.seg6 _)) (pr_part_one T.ag9 (lex_Token.seg6 _)) ((eqt_str Tryd.underlying9) d (by omega) _ _) (eqF_nil)))))))
theorem eql46 {ox oy:Operand} {a b:lex_Token}:binA Mt.P .eql 46 ox oy (vAgg (lex_Token.c a)) (vAgg (lex_Token.c b)) = some (.bool (decide (a = b))):=eqA_agg lex_Token.enc eqt46 (by decide) (by kernel_rfl)
theorem eqt59:EqT Tryd.prog 59 (fun x=>vAgg (ref06_Token.c x)) 3:=fun d hd x y=>by
 obtain ⟨d,rfl⟩:∃ m,d = m + 1:=⟨d - 1,by omega⟩
 have e:decide (x = y) = (decide (x.f_Kind = y.f_Kind) && (decide (x.f_Set = y.f_Set) && (decide (x.f_Min = y.f_Min) && (decide (x.f_Max = y.f_Max) && (decide (x.f_Mode = y.f_Mode) && (decide (x.f_N = y.f_N) && (decide (x.f_Flags = y.f_Flags) && true))))))):=by
  obtain ⟨a0,a1,a2,a3,a4,a5,a6⟩:=x; obtain ⟨b0,b1,b2,b3,b4,b5,b6⟩:=y
  simp [Bool.decide_and]
 rw [e]
 refine (pr_struct Tryd.underlying59 (by kernel_rfl) d _ _).trans ?_
 exact eqF_cons (by decide) (pr_part_one T.ag3 (ref06_Token.seg0 _)) (pr_part_one T.ag3 (ref06_Token.seg0 _)) ((eqt_int (k:=.i64) Tryd.underlying3) d (by omega) _ _) (eqF_cons (by decide) (pr_part_agg T.ag34 (by rw [((enc_arr (n:=4) enc_int)).len]; exact T.sz34) (ref06_Token.seg1 _)) (pr_part_agg T.ag34 (by rw [((enc_arr (n:=4) enc_int)).len]; exact T.sz34) (ref06_Token.seg1 _)) (eqt34 d (by omega) _ _) (eqF_cons (by decide) (pr_part_one T.ag3 (ref06_Token.seg2 _)) (pr_part_one T.ag3 (ref06_Token.seg2 _)) ((eqt_int (k:=.i64) Tryd.underlying3) d (by omega) _ _) (eqF_cons (by decide) (pr_part_one T.ag3 (ref06_Token.seg3 _)) (pr_part_one T.ag3 (ref06_Token.seg3 _)) ((eqt_int (k:=.i64) Tryd.underlying3) d (by omega) _ _) (eqF_cons (by decide) (pr_part_one T.ag3 (ref06_Token.seg4 _)) (pr_part_one T.ag3 (ref06_Token.seg4 _)) ((eqt_int (k:=.i64) Tryd.underlying3) d (by omega) _ _) (eqF_cons (by decide) (pr_part_one T.ag3 (ref06_Token.seg5 _)) (pr_part_one T.ag3 (ref06_Token.seg5 _)) ((eqt_int (k:=.i64) Tryd.underlying3) d (by omega) _ _) (eqF_cons (by decide) (pr_part_one T.ag9 (ref06_Token.seg6 _)) (pr_part_one T.ag9 (ref06_Token.seg6 _)) ((eqt_str Tryd.underlying9) d (by omega) _ _) (eqF_nil)))))))
theorem neq59 {ox oy:Operand} {a b:ref06_Token}:binA Mt.P .neq 59 ox oy (vAgg (ref06_Token.c a)) (vAgg (ref06_Token.c b)) = some (.bool (!decide (a = b))):=neA_agg ref06_Token.enc eqt59 (by decide) (by kernel_rfl)
end Go.Proofs.YtcjnmmeibppblaaDoor
